/-
  Patterns: bytes of a code (both sides).
-/
import Derived.Test.YtgdcdfpnogiciaaVd
namespace Go.Proofs.Ytgdcdfpnogiciaa
open Go.RowKit
set_option linter.unusedVariables false
set_option linter.unusedSimpArgs false

theorem vc_l04In_65 (c : UInt8) (w : World) : Calls Try.prog 101 #[.int .u8 65, .int .u8 (c.toNat : Int)] w fun e w' => e = .returned (.bool (inCodeV 65 c)) ∧ w = w' := by
  have hc := v_int c
  go_enter Try.func101, Try.ntmps101
  go_wp2_with (go_at_call 109; refine (vc_l02Letter c _).mono ?_; rintro e w1 ⟨rfl, rfl⟩)
  go_ret
  exact ⟨by simp [inCodeV], rfl⟩
theorem vc_l04In_67 (c : UInt8) (w : World) : Calls Try.prog 101 #[.int .u8 67, .int .u8 (c.toNat : Int)] w fun e w' => e = .returned (.bool (inCodeV 67 c)) ∧ w = w' := by
  have hc := v_int c
  by_cases h1 : c.toNat < 32
  · have h1' : (c.toNat : Int) < 32 := by omega
    go_enter Try.func101, Try.ntmps101
    go_wp2_with fail
    go_ret
    exact ⟨by simp [inCodeV, h1], rfl⟩
  · have h1' : ¬ (c.toNat : Int) < 32 := by omega
    have h1d : decide ((c.toNat : Int) < 32) = false := by simpa using h1'
    by_cases h2 : c.toNat = 127
    · have h2' : ((c.toNat : Int) == 127) = true := by simp [h2]
      have H := Lib.hid h2
      clear h2
      go_enter Try.func101, Try.ntmps101
      go_wp2_with fail
      go_ret
      exact ⟨by simp [inCodeV, H.out], rfl⟩
    · have h2' : ((c.toNat : Int) == 127) = false := by simp; omega
      have H := Lib.hid h2
      clear h2
      go_enter Try.func101, Try.ntmps101
      go_wp2_with fail
      go_ret
      exact ⟨by simp [inCodeV, H.out]; omega, rfl⟩
theorem vc_l04In_69 (c : UInt8) (w : World) : Calls Try.prog 101 #[.int .u8 69, .int .u8 (c.toNat : Int)] w fun e w' => e = .returned (.bool (inCodeV 69 c)) ∧ w = w' := by
  go_enter Try.func101, Try.ntmps101
  go_wp2_with fail
  go_ret
  exact ⟨by simp [inCodeV], rfl⟩
theorem vc_l04In_76 (c : UInt8) (w : World) : Calls Try.prog 101 #[.int .u8 76, .int .u8 (c.toNat : Int)] w fun e w' => e = .returned (.bool (inCodeV 76 c)) ∧ w = w' := by
  have hc := v_int c
  by_cases h1 : 97 ≤ c.toNat
  · have h1' : (97 : Int) ≤ (c.toNat : Int) := by omega
    by_cases h2 : c.toNat ≤ 122
    · have h2' : (c.toNat : Int) ≤ 122 := by omega
      go_enter Try.func101, Try.ntmps101
      go_wp2_with fail
      go_ret
      exact ⟨by simp [inCodeV, vLow, h1, h2], rfl⟩
    · have h2' : ¬ (c.toNat : Int) ≤ 122 := by omega
      go_enter Try.func101, Try.ntmps101
      go_wp2_with fail
      go_ret
      exact ⟨by simp [inCodeV, vLow, h1, h2], rfl⟩
  · have h1' : ¬ (97 : Int) ≤ (c.toNat : Int) := by omega
    go_enter Try.func101, Try.ntmps101
    go_wp2_with fail
    go_ret
    exact ⟨by simp [inCodeV, vLow, h1], rfl⟩
theorem vc_l04In_78 (c : UInt8) (w : World) : Calls Try.prog 101 #[.int .u8 78, .int .u8 (c.toNat : Int)] w fun e w' => e = .returned (.bool (inCodeV 78 c)) ∧ w = w' := by
  have hc := v_int c
  go_enter Try.func101, Try.ntmps101
  go_wp2_with (go_at_call 110; refine (vc_l01Digit c _).mono ?_; rintro e w1 ⟨rfl, rfl⟩)
  go_ret
  exact ⟨by simp [inCodeV], rfl⟩
theorem vc_l04In_80 (c : UInt8) (w : World) : Calls Try.prog 101 #[.int .u8 80, .int .u8 (c.toNat : Int)] w fun e w' => e = .returned (.bool (inCodeV 80 c)) ∧ w = w' := by
  have hc := v_int c
  by_cases h1 : 32 ≤ c.toNat
  · have h1' : (32 : Int) ≤ (c.toNat : Int) := by omega
    by_cases h2 : c.toNat < 127
    · have h2' : (c.toNat : Int) < 127 := by omega
      cases hL : vLet c <;> cases hD : vDig c
      all_goals
        have HL := Lib.hid hL; have HD := Lib.hid hD
        clear hL hD
        go_enter Try.func101, Try.ntmps101
        go_wp2_with (first | (go_at_call 109; refine (vc_l02Letter c _).mono ?_; rintro e w1 ⟨rfl, rfl⟩; rw [HL.out]) | (go_at_call 110; refine (vc_l01Digit c _).mono ?_; rintro e w1 ⟨rfl, rfl⟩; rw [HD.out]))
        go_ret
        exact ⟨by simp [inCodeV, h1, h2, HL.out, HD.out], rfl⟩
    · have h2' : ¬ (c.toNat : Int) < 127 := by omega
      go_enter Try.func101, Try.ntmps101
      go_wp2_with fail
      go_ret
      exact ⟨by simp [inCodeV, h1, h2], rfl⟩
  · have h1' : ¬ (32 : Int) ≤ (c.toNat : Int) := by omega
    go_enter Try.func101, Try.ntmps101
    go_wp2_with fail
    go_ret
    exact ⟨by simp [inCodeV, h1], rfl⟩
theorem vc_l04In_85 (c : UInt8) (w : World) : Calls Try.prog 101 #[.int .u8 85, .int .u8 (c.toNat : Int)] w fun e w' => e = .returned (.bool (inCodeV 85 c)) ∧ w = w' := by
  have hc := v_int c
  by_cases h1 : 65 ≤ c.toNat
  · have h1' : (65 : Int) ≤ (c.toNat : Int) := by omega
    by_cases h2 : c.toNat ≤ 90
    · have h2' : (c.toNat : Int) ≤ 90 := by omega
      go_enter Try.func101, Try.ntmps101
      go_wp2_with fail
      go_ret
      exact ⟨by simp [inCodeV, vUp, h1, h2], rfl⟩
    · have h2' : ¬ (c.toNat : Int) ≤ 90 := by omega
      go_enter Try.func101, Try.ntmps101
      go_wp2_with fail
      go_ret
      exact ⟨by simp [inCodeV, vUp, h1, h2], rfl⟩
  · have h1' : ¬ (65 : Int) ≤ (c.toNat : Int) := by omega
    go_enter Try.func101, Try.ntmps101
    go_wp2_with fail
    go_ret
    exact ⟨by simp [inCodeV, vUp, h1], rfl⟩
theorem vc_l04In_no (k c : UInt8) (w : World) (h1 : k ≠ 65) (h2 : k ≠ 67) (h3 : k ≠ 69) (h4 : k ≠ 76) (h5 : k ≠ 78) (h6 : k ≠ 80) (h7 : k ≠ 85) : Calls Try.prog 101 #[.int .u8 (k.toNat : Int), .int .u8 (c.toNat : Int)] w fun e w' => e = .returned (.bool (inCodeV k c)) ∧ w = w' := by
  have hv : inCodeV k c = false := by simp [inCodeV, h1, h2, h3, h4, h5, h6, h7]
  have HV := Lib.hid hv
  clear hv
  have hc := v_int c
  have e1 := v_ne 65 rfl h1
  have e2 := v_ne 67 rfl h2
  have e3 := v_ne 69 rfl h3
  have e4 := v_ne 76 rfl h4
  have e5 := v_ne 78 rfl h5
  have e6 := v_ne 80 rfl h6
  have e7 := v_ne 85 rfl h7
  clear h1 h2 h3 h4 h5 h6 h7
  go_enter Try.func101, Try.ntmps101
  go_wp2_with fail
  go_ret
  exact ⟨by rw [HV.out]; rfl, rfl⟩
theorem vc_l04In (k c : UInt8) (w : World) : Calls Try.prog 101 #[.int .u8 (k.toNat : Int), .int .u8 (c.toNat : Int)] w fun e w' => e = .returned (.bool (inCodeV k c)) ∧ w = w' := by
  rcases code_parts k with rfl | rfl | rfl | rfl | rfl | rfl | rfl | ⟨h1, h2, h3, h4, h5, h6, h7⟩
  · exact vc_l04In_65 c w
  · exact vc_l04In_67 c w
  · exact vc_l04In_69 c w
  · exact vc_l04In_76 c w
  · exact vc_l04In_78 c w
  · exact vc_l04In_80 c w
  · exact vc_l04In_85 c w
  · exact vc_l04In_no k c w h1 h2 h3 h4 h5 h6 h7
theorem byte_int (c : UInt8) : ((0 : Int) ≤ (c.toNat : Int) ∧ (c.toNat : Int) ≤ 31) ∨ ((32 : Int) ≤ (c.toNat : Int) ∧ (c.toNat : Int) ≤ 64) ∨ ((65 : Int) ≤ (c.toNat : Int) ∧ (c.toNat : Int) ≤ 90) ∨ ((91 : Int) ≤ (c.toNat : Int) ∧ (c.toNat : Int) ≤ 96) ∨ ((97 : Int) ≤ (c.toNat : Int) ∧ (c.toNat : Int) ≤ 122) ∨ ((123 : Int) ≤ (c.toNat : Int) ∧ (c.toNat : Int) ≤ 126) ∨ ((127 : Int) ≤ (c.toNat : Int) ∧ (c.toNat : Int) ≤ 127) ∨ ((128 : Int) ≤ (c.toNat : Int) ∧ (c.toNat : Int) ≤ 255) := by
  have := v_int c
  omega
theorem vb_eq {a b : Bool} {w w' : World} (h : b = a) (hw : w = w') : (fun (e : Ending) (w' : World) => e = .returned (.bool a) ∧ w = w') (.returned (.bool b)) w' := ⟨by rw [h], hw⟩
set_option maxHeartbeats 1000000 in
theorem vc_inCode_65 (c : UInt8) (w : World) : Calls Try.prog 106 #[.int .u8 65, .int .u8 (c.toNat : Int)] w fun e w' => e = .returned (.bool (inCodeV 65 c)) ∧ w = w' := by
  have n1 : ¬ ((c.toNat : Int) = 127) ∨ (127 : Int) ≤ (c.toNat : Int) := by omega
  clear n1
  rcases byte_int c with ⟨g0, g1⟩ | ⟨g0, g1⟩ | ⟨g0, g1⟩ | ⟨g0, g1⟩ | ⟨g0, g1⟩ | ⟨g0, g1⟩ | ⟨g0, g1⟩ | ⟨g0, g1⟩
  · go_enter Try.func106, Try.ntmps106
    go_wp2_with fail
    go_ret
    have t0 : ¬ 97 ≤ c.toNat := by omega
    have t1 : c.toNat ≤ 122 := by omega
    have t2 : ¬ 65 ≤ c.toNat := by omega
    have t3 : c.toNat ≤ 90 := by omega
    have t4 : c.toNat < 32 := by omega
    have t5 : ¬ c.toNat = 127 := by omega
    have t6 : ¬ 32 ≤ c.toNat := by omega
    have t7 : c.toNat < 127 := by omega
    exact vb_eq (by simp [inCodeV, vLet, vLow, vUp, t0, t1, t2, t3, t4, t5, t6, t7] <;> omega) rfl
  · go_enter Try.func106, Try.ntmps106
    go_wp2_with fail
    go_ret
    have t0 : ¬ 97 ≤ c.toNat := by omega
    have t1 : c.toNat ≤ 122 := by omega
    have t2 : ¬ 65 ≤ c.toNat := by omega
    have t3 : c.toNat ≤ 90 := by omega
    have t4 : ¬ c.toNat < 32 := by omega
    have t5 : ¬ c.toNat = 127 := by omega
    have t6 : 32 ≤ c.toNat := by omega
    have t7 : c.toNat < 127 := by omega
    exact vb_eq (by simp [inCodeV, vLet, vLow, vUp, t0, t1, t2, t3, t4, t5, t6, t7] <;> omega) rfl
  · go_enter Try.func106, Try.ntmps106
    go_wp2_with fail
    go_ret
    have t0 : ¬ 97 ≤ c.toNat := by omega
    have t1 : c.toNat ≤ 122 := by omega
    have t2 : 65 ≤ c.toNat := by omega
    have t3 : c.toNat ≤ 90 := by omega
    have t4 : ¬ c.toNat < 32 := by omega
    have t5 : ¬ c.toNat = 127 := by omega
    have t6 : 32 ≤ c.toNat := by omega
    have t7 : c.toNat < 127 := by omega
    exact vb_eq (by simp [inCodeV, vLet, vLow, vUp, t0, t1, t2, t3, t4, t5, t6, t7] <;> omega) rfl
  · go_enter Try.func106, Try.ntmps106
    go_wp2_with fail
    go_ret
    have t0 : ¬ 97 ≤ c.toNat := by omega
    have t1 : c.toNat ≤ 122 := by omega
    have t2 : 65 ≤ c.toNat := by omega
    have t3 : ¬ c.toNat ≤ 90 := by omega
    have t4 : ¬ c.toNat < 32 := by omega
    have t5 : ¬ c.toNat = 127 := by omega
    have t6 : 32 ≤ c.toNat := by omega
    have t7 : c.toNat < 127 := by omega
    exact vb_eq (by simp [inCodeV, vLet, vLow, vUp, t0, t1, t2, t3, t4, t5, t6, t7] <;> omega) rfl
  · go_enter Try.func106, Try.ntmps106
    go_wp2_with fail
    go_ret
    have t0 : 97 ≤ c.toNat := by omega
    have t1 : c.toNat ≤ 122 := by omega
    have t2 : 65 ≤ c.toNat := by omega
    have t3 : ¬ c.toNat ≤ 90 := by omega
    have t4 : ¬ c.toNat < 32 := by omega
    have t5 : ¬ c.toNat = 127 := by omega
    have t6 : 32 ≤ c.toNat := by omega
    have t7 : c.toNat < 127 := by omega
    exact vb_eq (by simp [inCodeV, vLet, vLow, vUp, t0, t1, t2, t3, t4, t5, t6, t7] <;> omega) rfl
  · go_enter Try.func106, Try.ntmps106
    go_wp2_with fail
    go_ret
    have t0 : 97 ≤ c.toNat := by omega
    have t1 : ¬ c.toNat ≤ 122 := by omega
    have t2 : 65 ≤ c.toNat := by omega
    have t3 : ¬ c.toNat ≤ 90 := by omega
    have t4 : ¬ c.toNat < 32 := by omega
    have t5 : ¬ c.toNat = 127 := by omega
    have t6 : 32 ≤ c.toNat := by omega
    have t7 : c.toNat < 127 := by omega
    exact vb_eq (by simp [inCodeV, vLet, vLow, vUp, t0, t1, t2, t3, t4, t5, t6, t7] <;> omega) rfl
  · go_enter Try.func106, Try.ntmps106
    go_wp2_with fail
    go_ret
    have t0 : 97 ≤ c.toNat := by omega
    have t1 : ¬ c.toNat ≤ 122 := by omega
    have t2 : 65 ≤ c.toNat := by omega
    have t3 : ¬ c.toNat ≤ 90 := by omega
    have t4 : ¬ c.toNat < 32 := by omega
    have t5 : c.toNat = 127 := by omega
    have t6 : 32 ≤ c.toNat := by omega
    have t7 : ¬ c.toNat < 127 := by omega
    exact vb_eq (by simp [inCodeV, vLet, vLow, vUp, t0, t1, t2, t3, t4, t5, t6, t7] <;> omega) rfl
  · go_enter Try.func106, Try.ntmps106
    go_wp2_with fail
    go_ret
    have t0 : 97 ≤ c.toNat := by omega
    have t1 : ¬ c.toNat ≤ 122 := by omega
    have t2 : 65 ≤ c.toNat := by omega
    have t3 : ¬ c.toNat ≤ 90 := by omega
    have t4 : ¬ c.toNat < 32 := by omega
    have t5 : ¬ c.toNat = 127 := by omega
    have t6 : 32 ≤ c.toNat := by omega
    have t7 : ¬ c.toNat < 127 := by omega
    exact vb_eq (by simp [inCodeV, vLet, vLow, vUp, t0, t1, t2, t3, t4, t5, t6, t7] <;> omega) rfl
set_option maxHeartbeats 1000000 in
theorem vc_inCode_67 (c : UInt8) (w : World) : Calls Try.prog 106 #[.int .u8 67, .int .u8 (c.toNat : Int)] w fun e w' => e = .returned (.bool (inCodeV 67 c)) ∧ w = w' := by
  have n1 : ¬ ((c.toNat : Int) = 127) ∨ (127 : Int) ≤ (c.toNat : Int) := by omega
  clear n1
  rcases byte_int c with ⟨g0, g1⟩ | ⟨g0, g1⟩ | ⟨g0, g1⟩ | ⟨g0, g1⟩ | ⟨g0, g1⟩ | ⟨g0, g1⟩ | ⟨g0, g1⟩ | ⟨g0, g1⟩
  · go_enter Try.func106, Try.ntmps106
    go_wp2_with fail
    go_ret
    have t0 : ¬ 97 ≤ c.toNat := by omega
    have t1 : c.toNat ≤ 122 := by omega
    have t2 : ¬ 65 ≤ c.toNat := by omega
    have t3 : c.toNat ≤ 90 := by omega
    have t4 : c.toNat < 32 := by omega
    have t5 : ¬ c.toNat = 127 := by omega
    have t6 : ¬ 32 ≤ c.toNat := by omega
    have t7 : c.toNat < 127 := by omega
    exact vb_eq (by simp [inCodeV, vLet, vLow, vUp, t0, t1, t2, t3, t4, t5, t6, t7] <;> omega) rfl
  · have d4 : ((c.toNat : Int) == 127) = false := by simp; omega
    go_enter Try.func106, Try.ntmps106
    go_wp2_with fail
    go_ret
    have t0 : ¬ 97 ≤ c.toNat := by omega
    have t1 : c.toNat ≤ 122 := by omega
    have t2 : ¬ 65 ≤ c.toNat := by omega
    have t3 : c.toNat ≤ 90 := by omega
    have t4 : ¬ c.toNat < 32 := by omega
    have t5 : ¬ c.toNat = 127 := by omega
    have t6 : 32 ≤ c.toNat := by omega
    have t7 : c.toNat < 127 := by omega
    exact vb_eq (by simp [inCodeV, vLet, vLow, vUp, t0, t1, t2, t3, t4, t5, t6, t7] <;> omega) rfl
  · have d4 : ((c.toNat : Int) == 127) = false := by simp; omega
    go_enter Try.func106, Try.ntmps106
    go_wp2_with fail
    go_ret
    have t0 : ¬ 97 ≤ c.toNat := by omega
    have t1 : c.toNat ≤ 122 := by omega
    have t2 : 65 ≤ c.toNat := by omega
    have t3 : c.toNat ≤ 90 := by omega
    have t4 : ¬ c.toNat < 32 := by omega
    have t5 : ¬ c.toNat = 127 := by omega
    have t6 : 32 ≤ c.toNat := by omega
    have t7 : c.toNat < 127 := by omega
    exact vb_eq (by simp [inCodeV, vLet, vLow, vUp, t0, t1, t2, t3, t4, t5, t6, t7] <;> omega) rfl
  · have d4 : ((c.toNat : Int) == 127) = false := by simp; omega
    go_enter Try.func106, Try.ntmps106
    go_wp2_with fail
    go_ret
    have t0 : ¬ 97 ≤ c.toNat := by omega
    have t1 : c.toNat ≤ 122 := by omega
    have t2 : 65 ≤ c.toNat := by omega
    have t3 : ¬ c.toNat ≤ 90 := by omega
    have t4 : ¬ c.toNat < 32 := by omega
    have t5 : ¬ c.toNat = 127 := by omega
    have t6 : 32 ≤ c.toNat := by omega
    have t7 : c.toNat < 127 := by omega
    exact vb_eq (by simp [inCodeV, vLet, vLow, vUp, t0, t1, t2, t3, t4, t5, t6, t7] <;> omega) rfl
  · have d4 : ((c.toNat : Int) == 127) = false := by simp; omega
    go_enter Try.func106, Try.ntmps106
    go_wp2_with fail
    go_ret
    have t0 : 97 ≤ c.toNat := by omega
    have t1 : c.toNat ≤ 122 := by omega
    have t2 : 65 ≤ c.toNat := by omega
    have t3 : ¬ c.toNat ≤ 90 := by omega
    have t4 : ¬ c.toNat < 32 := by omega
    have t5 : ¬ c.toNat = 127 := by omega
    have t6 : 32 ≤ c.toNat := by omega
    have t7 : c.toNat < 127 := by omega
    exact vb_eq (by simp [inCodeV, vLet, vLow, vUp, t0, t1, t2, t3, t4, t5, t6, t7] <;> omega) rfl
  · have d4 : ((c.toNat : Int) == 127) = false := by simp; omega
    go_enter Try.func106, Try.ntmps106
    go_wp2_with fail
    go_ret
    have t0 : 97 ≤ c.toNat := by omega
    have t1 : ¬ c.toNat ≤ 122 := by omega
    have t2 : 65 ≤ c.toNat := by omega
    have t3 : ¬ c.toNat ≤ 90 := by omega
    have t4 : ¬ c.toNat < 32 := by omega
    have t5 : ¬ c.toNat = 127 := by omega
    have t6 : 32 ≤ c.toNat := by omega
    have t7 : c.toNat < 127 := by omega
    exact vb_eq (by simp [inCodeV, vLet, vLow, vUp, t0, t1, t2, t3, t4, t5, t6, t7] <;> omega) rfl
  · have d4 : ((c.toNat : Int) == 127) = true := by simp; omega
    go_enter Try.func106, Try.ntmps106
    go_wp2_with fail
    go_ret
    have t0 : 97 ≤ c.toNat := by omega
    have t1 : ¬ c.toNat ≤ 122 := by omega
    have t2 : 65 ≤ c.toNat := by omega
    have t3 : ¬ c.toNat ≤ 90 := by omega
    have t4 : ¬ c.toNat < 32 := by omega
    have t5 : c.toNat = 127 := by omega
    have t6 : 32 ≤ c.toNat := by omega
    have t7 : ¬ c.toNat < 127 := by omega
    exact vb_eq (by simp [inCodeV, vLet, vLow, vUp, t0, t1, t2, t3, t4, t5, t6, t7] <;> omega) rfl
  · have d4 : ((c.toNat : Int) == 127) = false := by simp; omega
    go_enter Try.func106, Try.ntmps106
    go_wp2_with fail
    go_ret
    have t0 : 97 ≤ c.toNat := by omega
    have t1 : ¬ c.toNat ≤ 122 := by omega
    have t2 : 65 ≤ c.toNat := by omega
    have t3 : ¬ c.toNat ≤ 90 := by omega
    have t4 : ¬ c.toNat < 32 := by omega
    have t5 : ¬ c.toNat = 127 := by omega
    have t6 : 32 ≤ c.toNat := by omega
    have t7 : ¬ c.toNat < 127 := by omega
    exact vb_eq (by simp [inCodeV, vLet, vLow, vUp, t0, t1, t2, t3, t4, t5, t6, t7] <;> omega) rfl
set_option maxHeartbeats 1000000 in
theorem vc_inCode_69 (c : UInt8) (w : World) : Calls Try.prog 106 #[.int .u8 69, .int .u8 (c.toNat : Int)] w fun e w' => e = .returned (.bool (inCodeV 69 c)) ∧ w = w' := by
  have n1 : ¬ ((c.toNat : Int) = 127) ∨ (127 : Int) ≤ (c.toNat : Int) := by omega
  clear n1
  rcases byte_int c with ⟨g0, g1⟩ | ⟨g0, g1⟩ | ⟨g0, g1⟩ | ⟨g0, g1⟩ | ⟨g0, g1⟩ | ⟨g0, g1⟩ | ⟨g0, g1⟩ | ⟨g0, g1⟩
  · go_enter Try.func106, Try.ntmps106
    go_wp2_with fail
    go_ret
    have t0 : ¬ 97 ≤ c.toNat := by omega
    have t1 : c.toNat ≤ 122 := by omega
    have t2 : ¬ 65 ≤ c.toNat := by omega
    have t3 : c.toNat ≤ 90 := by omega
    have t4 : c.toNat < 32 := by omega
    have t5 : ¬ c.toNat = 127 := by omega
    have t6 : ¬ 32 ≤ c.toNat := by omega
    have t7 : c.toNat < 127 := by omega
    exact vb_eq (by simp [inCodeV, vLet, vLow, vUp, t0, t1, t2, t3, t4, t5, t6, t7] <;> omega) rfl
  · go_enter Try.func106, Try.ntmps106
    go_wp2_with fail
    go_ret
    have t0 : ¬ 97 ≤ c.toNat := by omega
    have t1 : c.toNat ≤ 122 := by omega
    have t2 : ¬ 65 ≤ c.toNat := by omega
    have t3 : c.toNat ≤ 90 := by omega
    have t4 : ¬ c.toNat < 32 := by omega
    have t5 : ¬ c.toNat = 127 := by omega
    have t6 : 32 ≤ c.toNat := by omega
    have t7 : c.toNat < 127 := by omega
    exact vb_eq (by simp [inCodeV, vLet, vLow, vUp, t0, t1, t2, t3, t4, t5, t6, t7] <;> omega) rfl
  · go_enter Try.func106, Try.ntmps106
    go_wp2_with fail
    go_ret
    have t0 : ¬ 97 ≤ c.toNat := by omega
    have t1 : c.toNat ≤ 122 := by omega
    have t2 : 65 ≤ c.toNat := by omega
    have t3 : c.toNat ≤ 90 := by omega
    have t4 : ¬ c.toNat < 32 := by omega
    have t5 : ¬ c.toNat = 127 := by omega
    have t6 : 32 ≤ c.toNat := by omega
    have t7 : c.toNat < 127 := by omega
    exact vb_eq (by simp [inCodeV, vLet, vLow, vUp, t0, t1, t2, t3, t4, t5, t6, t7] <;> omega) rfl
  · go_enter Try.func106, Try.ntmps106
    go_wp2_with fail
    go_ret
    have t0 : ¬ 97 ≤ c.toNat := by omega
    have t1 : c.toNat ≤ 122 := by omega
    have t2 : 65 ≤ c.toNat := by omega
    have t3 : ¬ c.toNat ≤ 90 := by omega
    have t4 : ¬ c.toNat < 32 := by omega
    have t5 : ¬ c.toNat = 127 := by omega
    have t6 : 32 ≤ c.toNat := by omega
    have t7 : c.toNat < 127 := by omega
    exact vb_eq (by simp [inCodeV, vLet, vLow, vUp, t0, t1, t2, t3, t4, t5, t6, t7] <;> omega) rfl
  · go_enter Try.func106, Try.ntmps106
    go_wp2_with fail
    go_ret
    have t0 : 97 ≤ c.toNat := by omega
    have t1 : c.toNat ≤ 122 := by omega
    have t2 : 65 ≤ c.toNat := by omega
    have t3 : ¬ c.toNat ≤ 90 := by omega
    have t4 : ¬ c.toNat < 32 := by omega
    have t5 : ¬ c.toNat = 127 := by omega
    have t6 : 32 ≤ c.toNat := by omega
    have t7 : c.toNat < 127 := by omega
    exact vb_eq (by simp [inCodeV, vLet, vLow, vUp, t0, t1, t2, t3, t4, t5, t6, t7] <;> omega) rfl
  · go_enter Try.func106, Try.ntmps106
    go_wp2_with fail
    go_ret
    have t0 : 97 ≤ c.toNat := by omega
    have t1 : ¬ c.toNat ≤ 122 := by omega
    have t2 : 65 ≤ c.toNat := by omega
    have t3 : ¬ c.toNat ≤ 90 := by omega
    have t4 : ¬ c.toNat < 32 := by omega
    have t5 : ¬ c.toNat = 127 := by omega
    have t6 : 32 ≤ c.toNat := by omega
    have t7 : c.toNat < 127 := by omega
    exact vb_eq (by simp [inCodeV, vLet, vLow, vUp, t0, t1, t2, t3, t4, t5, t6, t7] <;> omega) rfl
  · go_enter Try.func106, Try.ntmps106
    go_wp2_with fail
    go_ret
    have t0 : 97 ≤ c.toNat := by omega
    have t1 : ¬ c.toNat ≤ 122 := by omega
    have t2 : 65 ≤ c.toNat := by omega
    have t3 : ¬ c.toNat ≤ 90 := by omega
    have t4 : ¬ c.toNat < 32 := by omega
    have t5 : c.toNat = 127 := by omega
    have t6 : 32 ≤ c.toNat := by omega
    have t7 : ¬ c.toNat < 127 := by omega
    exact vb_eq (by simp [inCodeV, vLet, vLow, vUp, t0, t1, t2, t3, t4, t5, t6, t7] <;> omega) rfl
  · go_enter Try.func106, Try.ntmps106
    go_wp2_with fail
    go_ret
    have t0 : 97 ≤ c.toNat := by omega
    have t1 : ¬ c.toNat ≤ 122 := by omega
    have t2 : 65 ≤ c.toNat := by omega
    have t3 : ¬ c.toNat ≤ 90 := by omega
    have t4 : ¬ c.toNat < 32 := by omega
    have t5 : ¬ c.toNat = 127 := by omega
    have t6 : 32 ≤ c.toNat := by omega
    have t7 : ¬ c.toNat < 127 := by omega
    exact vb_eq (by simp [inCodeV, vLet, vLow, vUp, t0, t1, t2, t3, t4, t5, t6, t7] <;> omega) rfl
set_option maxHeartbeats 1000000 in
theorem vc_inCode_76 (c : UInt8) (w : World) : Calls Try.prog 106 #[.int .u8 76, .int .u8 (c.toNat : Int)] w fun e w' => e = .returned (.bool (inCodeV 76 c)) ∧ w = w' := by
  have n1 : ¬ ((c.toNat : Int) = 127) ∨ (127 : Int) ≤ (c.toNat : Int) := by omega
  clear n1
  rcases byte_int c with ⟨g0, g1⟩ | ⟨g0, g1⟩ | ⟨g0, g1⟩ | ⟨g0, g1⟩ | ⟨g0, g1⟩ | ⟨g0, g1⟩ | ⟨g0, g1⟩ | ⟨g0, g1⟩
  · go_enter Try.func106, Try.ntmps106
    go_wp2_with fail
    go_ret
    have t0 : ¬ 97 ≤ c.toNat := by omega
    have t1 : c.toNat ≤ 122 := by omega
    have t2 : ¬ 65 ≤ c.toNat := by omega
    have t3 : c.toNat ≤ 90 := by omega
    have t4 : c.toNat < 32 := by omega
    have t5 : ¬ c.toNat = 127 := by omega
    have t6 : ¬ 32 ≤ c.toNat := by omega
    have t7 : c.toNat < 127 := by omega
    exact vb_eq (by simp [inCodeV, vLet, vLow, vUp, t0, t1, t2, t3, t4, t5, t6, t7] <;> omega) rfl
  · go_enter Try.func106, Try.ntmps106
    go_wp2_with fail
    go_ret
    have t0 : ¬ 97 ≤ c.toNat := by omega
    have t1 : c.toNat ≤ 122 := by omega
    have t2 : ¬ 65 ≤ c.toNat := by omega
    have t3 : c.toNat ≤ 90 := by omega
    have t4 : ¬ c.toNat < 32 := by omega
    have t5 : ¬ c.toNat = 127 := by omega
    have t6 : 32 ≤ c.toNat := by omega
    have t7 : c.toNat < 127 := by omega
    exact vb_eq (by simp [inCodeV, vLet, vLow, vUp, t0, t1, t2, t3, t4, t5, t6, t7] <;> omega) rfl
  · go_enter Try.func106, Try.ntmps106
    go_wp2_with fail
    go_ret
    have t0 : ¬ 97 ≤ c.toNat := by omega
    have t1 : c.toNat ≤ 122 := by omega
    have t2 : 65 ≤ c.toNat := by omega
    have t3 : c.toNat ≤ 90 := by omega
    have t4 : ¬ c.toNat < 32 := by omega
    have t5 : ¬ c.toNat = 127 := by omega
    have t6 : 32 ≤ c.toNat := by omega
    have t7 : c.toNat < 127 := by omega
    exact vb_eq (by simp [inCodeV, vLet, vLow, vUp, t0, t1, t2, t3, t4, t5, t6, t7] <;> omega) rfl
  · go_enter Try.func106, Try.ntmps106
    go_wp2_with fail
    go_ret
    have t0 : ¬ 97 ≤ c.toNat := by omega
    have t1 : c.toNat ≤ 122 := by omega
    have t2 : 65 ≤ c.toNat := by omega
    have t3 : ¬ c.toNat ≤ 90 := by omega
    have t4 : ¬ c.toNat < 32 := by omega
    have t5 : ¬ c.toNat = 127 := by omega
    have t6 : 32 ≤ c.toNat := by omega
    have t7 : c.toNat < 127 := by omega
    exact vb_eq (by simp [inCodeV, vLet, vLow, vUp, t0, t1, t2, t3, t4, t5, t6, t7] <;> omega) rfl
  · go_enter Try.func106, Try.ntmps106
    go_wp2_with fail
    go_ret
    have t0 : 97 ≤ c.toNat := by omega
    have t1 : c.toNat ≤ 122 := by omega
    have t2 : 65 ≤ c.toNat := by omega
    have t3 : ¬ c.toNat ≤ 90 := by omega
    have t4 : ¬ c.toNat < 32 := by omega
    have t5 : ¬ c.toNat = 127 := by omega
    have t6 : 32 ≤ c.toNat := by omega
    have t7 : c.toNat < 127 := by omega
    exact vb_eq (by simp [inCodeV, vLet, vLow, vUp, t0, t1, t2, t3, t4, t5, t6, t7] <;> omega) rfl
  · go_enter Try.func106, Try.ntmps106
    go_wp2_with fail
    go_ret
    have t0 : 97 ≤ c.toNat := by omega
    have t1 : ¬ c.toNat ≤ 122 := by omega
    have t2 : 65 ≤ c.toNat := by omega
    have t3 : ¬ c.toNat ≤ 90 := by omega
    have t4 : ¬ c.toNat < 32 := by omega
    have t5 : ¬ c.toNat = 127 := by omega
    have t6 : 32 ≤ c.toNat := by omega
    have t7 : c.toNat < 127 := by omega
    exact vb_eq (by simp [inCodeV, vLet, vLow, vUp, t0, t1, t2, t3, t4, t5, t6, t7] <;> omega) rfl
  · go_enter Try.func106, Try.ntmps106
    go_wp2_with fail
    go_ret
    have t0 : 97 ≤ c.toNat := by omega
    have t1 : ¬ c.toNat ≤ 122 := by omega
    have t2 : 65 ≤ c.toNat := by omega
    have t3 : ¬ c.toNat ≤ 90 := by omega
    have t4 : ¬ c.toNat < 32 := by omega
    have t5 : c.toNat = 127 := by omega
    have t6 : 32 ≤ c.toNat := by omega
    have t7 : ¬ c.toNat < 127 := by omega
    exact vb_eq (by simp [inCodeV, vLet, vLow, vUp, t0, t1, t2, t3, t4, t5, t6, t7] <;> omega) rfl
  · go_enter Try.func106, Try.ntmps106
    go_wp2_with fail
    go_ret
    have t0 : 97 ≤ c.toNat := by omega
    have t1 : ¬ c.toNat ≤ 122 := by omega
    have t2 : 65 ≤ c.toNat := by omega
    have t3 : ¬ c.toNat ≤ 90 := by omega
    have t4 : ¬ c.toNat < 32 := by omega
    have t5 : ¬ c.toNat = 127 := by omega
    have t6 : 32 ≤ c.toNat := by omega
    have t7 : ¬ c.toNat < 127 := by omega
    exact vb_eq (by simp [inCodeV, vLet, vLow, vUp, t0, t1, t2, t3, t4, t5, t6, t7] <;> omega) rfl
set_option maxHeartbeats 1000000 in
theorem vc_inCode_78 (c : UInt8) (w : World) : Calls Try.prog 106 #[.int .u8 78, .int .u8 (c.toNat : Int)] w fun e w' => e = .returned (.bool (inCodeV 78 c)) ∧ w = w' := by
  have n1 : ¬ ((c.toNat : Int) = 127) ∨ (127 : Int) ≤ (c.toNat : Int) := by omega
  clear n1
  rcases byte_int c with ⟨g0, g1⟩ | ⟨g0, g1⟩ | ⟨g0, g1⟩ | ⟨g0, g1⟩ | ⟨g0, g1⟩ | ⟨g0, g1⟩ | ⟨g0, g1⟩ | ⟨g0, g1⟩
  · go_enter Try.func106, Try.ntmps106
    go_wp2_with (go_at_call 113; refine (vc_isDigit c _).mono ?_; rintro e w1 ⟨rfl, rfl⟩)
    go_ret
    exact vb_eq (by simp [inCodeV]) rfl
  · go_enter Try.func106, Try.ntmps106
    go_wp2_with (go_at_call 113; refine (vc_isDigit c _).mono ?_; rintro e w1 ⟨rfl, rfl⟩)
    go_ret
    exact vb_eq (by simp [inCodeV]) rfl
  · go_enter Try.func106, Try.ntmps106
    go_wp2_with (go_at_call 113; refine (vc_isDigit c _).mono ?_; rintro e w1 ⟨rfl, rfl⟩)
    go_ret
    exact vb_eq (by simp [inCodeV]) rfl
  · go_enter Try.func106, Try.ntmps106
    go_wp2_with (go_at_call 113; refine (vc_isDigit c _).mono ?_; rintro e w1 ⟨rfl, rfl⟩)
    go_ret
    exact vb_eq (by simp [inCodeV]) rfl
  · go_enter Try.func106, Try.ntmps106
    go_wp2_with (go_at_call 113; refine (vc_isDigit c _).mono ?_; rintro e w1 ⟨rfl, rfl⟩)
    go_ret
    exact vb_eq (by simp [inCodeV]) rfl
  · go_enter Try.func106, Try.ntmps106
    go_wp2_with (go_at_call 113; refine (vc_isDigit c _).mono ?_; rintro e w1 ⟨rfl, rfl⟩)
    go_ret
    exact vb_eq (by simp [inCodeV]) rfl
  · go_enter Try.func106, Try.ntmps106
    go_wp2_with (go_at_call 113; refine (vc_isDigit c _).mono ?_; rintro e w1 ⟨rfl, rfl⟩)
    go_ret
    exact vb_eq (by simp [inCodeV]) rfl
  · go_enter Try.func106, Try.ntmps106
    go_wp2_with (go_at_call 113; refine (vc_isDigit c _).mono ?_; rintro e w1 ⟨rfl, rfl⟩)
    go_ret
    exact vb_eq (by simp [inCodeV]) rfl
set_option maxHeartbeats 1000000 in
theorem vc_inCode_80 (c : UInt8) (w : World) : Calls Try.prog 106 #[.int .u8 80, .int .u8 (c.toNat : Int)] w fun e w' => e = .returned (.bool (inCodeV 80 c)) ∧ w = w' := by
  have n1 : ¬ ((c.toNat : Int) = 127) ∨ (127 : Int) ≤ (c.toNat : Int) := by omega
  clear n1
  rcases byte_int c with ⟨g0, g1⟩ | ⟨g0, g1⟩ | ⟨g0, g1⟩ | ⟨g0, g1⟩ | ⟨g0, g1⟩ | ⟨g0, g1⟩ | ⟨g0, g1⟩ | ⟨g0, g1⟩
  · go_enter Try.func106, Try.ntmps106
    go_wp2_with fail
    go_ret
    have t0 : ¬ 97 ≤ c.toNat := by omega
    have t1 : c.toNat ≤ 122 := by omega
    have t2 : ¬ 65 ≤ c.toNat := by omega
    have t3 : c.toNat ≤ 90 := by omega
    have t4 : c.toNat < 32 := by omega
    have t5 : ¬ c.toNat = 127 := by omega
    have t6 : ¬ 32 ≤ c.toNat := by omega
    have t7 : c.toNat < 127 := by omega
    exact vb_eq (by simp [inCodeV, vLet, vLow, vUp, t0, t1, t2, t3, t4, t5, t6, t7] <;> omega) rfl
  · cases hD : vDig c
    all_goals
      have HD := Lib.hid hD
      clear hD
      go_enter Try.func106, Try.ntmps106
      go_wp2_with (first | (go_at_call 113; refine (vc_isDigit c _).mono ?_; rintro e w1 ⟨rfl, rfl⟩; rw [HD.out]))
      go_ret
      have t0 : ¬ 97 ≤ c.toNat := by omega
      have t1 : c.toNat ≤ 122 := by omega
      have t2 : ¬ 65 ≤ c.toNat := by omega
      have t3 : c.toNat ≤ 90 := by omega
      have t4 : ¬ c.toNat < 32 := by omega
      have t5 : ¬ c.toNat = 127 := by omega
      have t6 : 32 ≤ c.toNat := by omega
      have t7 : c.toNat < 127 := by omega
      exact vb_eq (by simp [inCodeV, vLet, vLow, vUp, HD.out, t0, t1, t2, t3, t4, t5, t6, t7] <;> omega) rfl
  · go_enter Try.func106, Try.ntmps106
    go_wp2_with fail
    go_ret
    have t0 : ¬ 97 ≤ c.toNat := by omega
    have t1 : c.toNat ≤ 122 := by omega
    have t2 : 65 ≤ c.toNat := by omega
    have t3 : c.toNat ≤ 90 := by omega
    have t4 : ¬ c.toNat < 32 := by omega
    have t5 : ¬ c.toNat = 127 := by omega
    have t6 : 32 ≤ c.toNat := by omega
    have t7 : c.toNat < 127 := by omega
    exact vb_eq (by simp [inCodeV, vLet, vLow, vUp, t0, t1, t2, t3, t4, t5, t6, t7] <;> omega) rfl
  · cases hD : vDig c
    all_goals
      have HD := Lib.hid hD
      clear hD
      go_enter Try.func106, Try.ntmps106
      go_wp2_with (first | (go_at_call 113; refine (vc_isDigit c _).mono ?_; rintro e w1 ⟨rfl, rfl⟩; rw [HD.out]))
      go_ret
      have t0 : ¬ 97 ≤ c.toNat := by omega
      have t1 : c.toNat ≤ 122 := by omega
      have t2 : 65 ≤ c.toNat := by omega
      have t3 : ¬ c.toNat ≤ 90 := by omega
      have t4 : ¬ c.toNat < 32 := by omega
      have t5 : ¬ c.toNat = 127 := by omega
      have t6 : 32 ≤ c.toNat := by omega
      have t7 : c.toNat < 127 := by omega
      exact vb_eq (by simp [inCodeV, vLet, vLow, vUp, HD.out, t0, t1, t2, t3, t4, t5, t6, t7] <;> omega) rfl
  · go_enter Try.func106, Try.ntmps106
    go_wp2_with fail
    go_ret
    have t0 : 97 ≤ c.toNat := by omega
    have t1 : c.toNat ≤ 122 := by omega
    have t2 : 65 ≤ c.toNat := by omega
    have t3 : ¬ c.toNat ≤ 90 := by omega
    have t4 : ¬ c.toNat < 32 := by omega
    have t5 : ¬ c.toNat = 127 := by omega
    have t6 : 32 ≤ c.toNat := by omega
    have t7 : c.toNat < 127 := by omega
    exact vb_eq (by simp [inCodeV, vLet, vLow, vUp, t0, t1, t2, t3, t4, t5, t6, t7] <;> omega) rfl
  · cases hD : vDig c
    all_goals
      have HD := Lib.hid hD
      clear hD
      go_enter Try.func106, Try.ntmps106
      go_wp2_with (first | (go_at_call 113; refine (vc_isDigit c _).mono ?_; rintro e w1 ⟨rfl, rfl⟩; rw [HD.out]))
      go_ret
      have t0 : 97 ≤ c.toNat := by omega
      have t1 : ¬ c.toNat ≤ 122 := by omega
      have t2 : 65 ≤ c.toNat := by omega
      have t3 : ¬ c.toNat ≤ 90 := by omega
      have t4 : ¬ c.toNat < 32 := by omega
      have t5 : ¬ c.toNat = 127 := by omega
      have t6 : 32 ≤ c.toNat := by omega
      have t7 : c.toNat < 127 := by omega
      exact vb_eq (by simp [inCodeV, vLet, vLow, vUp, HD.out, t0, t1, t2, t3, t4, t5, t6, t7] <;> omega) rfl
  · go_enter Try.func106, Try.ntmps106
    go_wp2_with fail
    go_ret
    have t0 : 97 ≤ c.toNat := by omega
    have t1 : ¬ c.toNat ≤ 122 := by omega
    have t2 : 65 ≤ c.toNat := by omega
    have t3 : ¬ c.toNat ≤ 90 := by omega
    have t4 : ¬ c.toNat < 32 := by omega
    have t5 : c.toNat = 127 := by omega
    have t6 : 32 ≤ c.toNat := by omega
    have t7 : ¬ c.toNat < 127 := by omega
    exact vb_eq (by simp [inCodeV, vLet, vLow, vUp, t0, t1, t2, t3, t4, t5, t6, t7] <;> omega) rfl
  · go_enter Try.func106, Try.ntmps106
    go_wp2_with fail
    go_ret
    have t0 : 97 ≤ c.toNat := by omega
    have t1 : ¬ c.toNat ≤ 122 := by omega
    have t2 : 65 ≤ c.toNat := by omega
    have t3 : ¬ c.toNat ≤ 90 := by omega
    have t4 : ¬ c.toNat < 32 := by omega
    have t5 : ¬ c.toNat = 127 := by omega
    have t6 : 32 ≤ c.toNat := by omega
    have t7 : ¬ c.toNat < 127 := by omega
    exact vb_eq (by simp [inCodeV, vLet, vLow, vUp, t0, t1, t2, t3, t4, t5, t6, t7] <;> omega) rfl
set_option maxHeartbeats 1000000 in
theorem vc_inCode_85 (c : UInt8) (w : World) : Calls Try.prog 106 #[.int .u8 85, .int .u8 (c.toNat : Int)] w fun e w' => e = .returned (.bool (inCodeV 85 c)) ∧ w = w' := by
  have n1 : ¬ ((c.toNat : Int) = 127) ∨ (127 : Int) ≤ (c.toNat : Int) := by omega
  clear n1
  rcases byte_int c with ⟨g0, g1⟩ | ⟨g0, g1⟩ | ⟨g0, g1⟩ | ⟨g0, g1⟩ | ⟨g0, g1⟩ | ⟨g0, g1⟩ | ⟨g0, g1⟩ | ⟨g0, g1⟩
  · go_enter Try.func106, Try.ntmps106
    go_wp2_with fail
    go_ret
    have t0 : ¬ 97 ≤ c.toNat := by omega
    have t1 : c.toNat ≤ 122 := by omega
    have t2 : ¬ 65 ≤ c.toNat := by omega
    have t3 : c.toNat ≤ 90 := by omega
    have t4 : c.toNat < 32 := by omega
    have t5 : ¬ c.toNat = 127 := by omega
    have t6 : ¬ 32 ≤ c.toNat := by omega
    have t7 : c.toNat < 127 := by omega
    exact vb_eq (by simp [inCodeV, vLet, vLow, vUp, t0, t1, t2, t3, t4, t5, t6, t7] <;> omega) rfl
  · go_enter Try.func106, Try.ntmps106
    go_wp2_with fail
    go_ret
    have t0 : ¬ 97 ≤ c.toNat := by omega
    have t1 : c.toNat ≤ 122 := by omega
    have t2 : ¬ 65 ≤ c.toNat := by omega
    have t3 : c.toNat ≤ 90 := by omega
    have t4 : ¬ c.toNat < 32 := by omega
    have t5 : ¬ c.toNat = 127 := by omega
    have t6 : 32 ≤ c.toNat := by omega
    have t7 : c.toNat < 127 := by omega
    exact vb_eq (by simp [inCodeV, vLet, vLow, vUp, t0, t1, t2, t3, t4, t5, t6, t7] <;> omega) rfl
  · go_enter Try.func106, Try.ntmps106
    go_wp2_with fail
    go_ret
    have t0 : ¬ 97 ≤ c.toNat := by omega
    have t1 : c.toNat ≤ 122 := by omega
    have t2 : 65 ≤ c.toNat := by omega
    have t3 : c.toNat ≤ 90 := by omega
    have t4 : ¬ c.toNat < 32 := by omega
    have t5 : ¬ c.toNat = 127 := by omega
    have t6 : 32 ≤ c.toNat := by omega
    have t7 : c.toNat < 127 := by omega
    exact vb_eq (by simp [inCodeV, vLet, vLow, vUp, t0, t1, t2, t3, t4, t5, t6, t7] <;> omega) rfl
  · go_enter Try.func106, Try.ntmps106
    go_wp2_with fail
    go_ret
    have t0 : ¬ 97 ≤ c.toNat := by omega
    have t1 : c.toNat ≤ 122 := by omega
    have t2 : 65 ≤ c.toNat := by omega
    have t3 : ¬ c.toNat ≤ 90 := by omega
    have t4 : ¬ c.toNat < 32 := by omega
    have t5 : ¬ c.toNat = 127 := by omega
    have t6 : 32 ≤ c.toNat := by omega
    have t7 : c.toNat < 127 := by omega
    exact vb_eq (by simp [inCodeV, vLet, vLow, vUp, t0, t1, t2, t3, t4, t5, t6, t7] <;> omega) rfl
  · go_enter Try.func106, Try.ntmps106
    go_wp2_with fail
    go_ret
    have t0 : 97 ≤ c.toNat := by omega
    have t1 : c.toNat ≤ 122 := by omega
    have t2 : 65 ≤ c.toNat := by omega
    have t3 : ¬ c.toNat ≤ 90 := by omega
    have t4 : ¬ c.toNat < 32 := by omega
    have t5 : ¬ c.toNat = 127 := by omega
    have t6 : 32 ≤ c.toNat := by omega
    have t7 : c.toNat < 127 := by omega
    exact vb_eq (by simp [inCodeV, vLet, vLow, vUp, t0, t1, t2, t3, t4, t5, t6, t7] <;> omega) rfl
  · go_enter Try.func106, Try.ntmps106
    go_wp2_with fail
    go_ret
    have t0 : 97 ≤ c.toNat := by omega
    have t1 : ¬ c.toNat ≤ 122 := by omega
    have t2 : 65 ≤ c.toNat := by omega
    have t3 : ¬ c.toNat ≤ 90 := by omega
    have t4 : ¬ c.toNat < 32 := by omega
    have t5 : ¬ c.toNat = 127 := by omega
    have t6 : 32 ≤ c.toNat := by omega
    have t7 : c.toNat < 127 := by omega
    exact vb_eq (by simp [inCodeV, vLet, vLow, vUp, t0, t1, t2, t3, t4, t5, t6, t7] <;> omega) rfl
  · go_enter Try.func106, Try.ntmps106
    go_wp2_with fail
    go_ret
    have t0 : 97 ≤ c.toNat := by omega
    have t1 : ¬ c.toNat ≤ 122 := by omega
    have t2 : 65 ≤ c.toNat := by omega
    have t3 : ¬ c.toNat ≤ 90 := by omega
    have t4 : ¬ c.toNat < 32 := by omega
    have t5 : c.toNat = 127 := by omega
    have t6 : 32 ≤ c.toNat := by omega
    have t7 : ¬ c.toNat < 127 := by omega
    exact vb_eq (by simp [inCodeV, vLet, vLow, vUp, t0, t1, t2, t3, t4, t5, t6, t7] <;> omega) rfl
  · go_enter Try.func106, Try.ntmps106
    go_wp2_with fail
    go_ret
    have t0 : 97 ≤ c.toNat := by omega
    have t1 : ¬ c.toNat ≤ 122 := by omega
    have t2 : 65 ≤ c.toNat := by omega
    have t3 : ¬ c.toNat ≤ 90 := by omega
    have t4 : ¬ c.toNat < 32 := by omega
    have t5 : ¬ c.toNat = 127 := by omega
    have t6 : 32 ≤ c.toNat := by omega
    have t7 : ¬ c.toNat < 127 := by omega
    exact vb_eq (by simp [inCodeV, vLet, vLow, vUp, t0, t1, t2, t3, t4, t5, t6, t7] <;> omega) rfl
theorem vc_inCode_no (k c : UInt8) (w : World) (h1 : k ≠ 65) (h2 : k ≠ 67) (h3 : k ≠ 69) (h4 : k ≠ 76) (h5 : k ≠ 78) (h6 : k ≠ 80) (h7 : k ≠ 85) : Calls Try.prog 106 #[.int .u8 (k.toNat : Int), .int .u8 (c.toNat : Int)] w fun e w' => e = .returned (.bool (inCodeV k c)) ∧ w = w' := by
  have hv : inCodeV k c = false := by simp [inCodeV, h1, h2, h3, h4, h5, h6, h7]
  have HV := Lib.hid hv
  clear hv
  have hc := v_int c
  have e1 := v_ne 65 rfl h1
  have e2 := v_ne 67 rfl h2
  have e3 := v_ne 69 rfl h3
  have e4 := v_ne 76 rfl h4
  have e5 := v_ne 78 rfl h5
  have e6 := v_ne 80 rfl h6
  have e7 := v_ne 85 rfl h7
  clear h1 h2 h3 h4 h5 h6 h7
  clear hc
  rcases byte_int c with ⟨g0, g1⟩ | ⟨g0, g1⟩ | ⟨g0, g1⟩ | ⟨g0, g1⟩ | ⟨g0, g1⟩ | ⟨g0, g1⟩ | ⟨g0, g1⟩ | ⟨g0, g1⟩
  · go_enter Try.func106, Try.ntmps106
    go_wp2_with fail
    go_ret
    exact ⟨by rw [HV.out] <;> rfl, rfl⟩
  · go_enter Try.func106, Try.ntmps106
    go_wp2_with fail
    go_ret
    exact ⟨by rw [HV.out] <;> rfl, rfl⟩
  · go_enter Try.func106, Try.ntmps106
    go_wp2_with fail
    go_ret
    exact ⟨by rw [HV.out] <;> rfl, rfl⟩
  · go_enter Try.func106, Try.ntmps106
    go_wp2_with fail
    go_ret
    exact ⟨by rw [HV.out] <;> rfl, rfl⟩
  · go_enter Try.func106, Try.ntmps106
    go_wp2_with fail
    go_ret
    exact ⟨by rw [HV.out] <;> rfl, rfl⟩
  · go_enter Try.func106, Try.ntmps106
    go_wp2_with fail
    go_ret
    exact ⟨by rw [HV.out] <;> rfl, rfl⟩
  · go_enter Try.func106, Try.ntmps106
    go_wp2_with fail
    go_ret
    exact ⟨by rw [HV.out] <;> rfl, rfl⟩
  · go_enter Try.func106, Try.ntmps106
    go_wp2_with fail
    go_ret
    exact ⟨by rw [HV.out] <;> rfl, rfl⟩
theorem vc_inCode (k c : UInt8) (w : World) : Calls Try.prog 106 #[.int .u8 (k.toNat : Int), .int .u8 (c.toNat : Int)] w fun e w' => e = .returned (.bool (inCodeV k c)) ∧ w = w' := by
  rcases code_parts k with rfl | rfl | rfl | rfl | rfl | rfl | rfl | ⟨h1, h2, h3, h4, h5, h6, h7⟩
  · exact vc_inCode_65 c w
  · exact vc_inCode_67 c w
  · exact vc_inCode_69 c w
  · exact vc_inCode_76 c w
  · exact vc_inCode_78 c w
  · exact vc_inCode_80 c w
  · exact vc_inCode_85 c w
  · exact vc_inCode_no k c w h1 h2 h3 h4 h5 h6 h7
end Go.Proofs.Ytgdcdfpnogiciaa
