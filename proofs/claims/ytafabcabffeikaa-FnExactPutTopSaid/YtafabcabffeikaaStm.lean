/-
  Stamped: the program's and the reference's compute one function; the law returns true.
-/
import Derived.Test.YtafabcabffeikaaZs
namespace Go.Proofs.Ytafabcabffeikaa
open Go.RowKit
set_option linter.unusedVariables false

def stamped (s b : ByteArray) (wide : Int) : ByteArray :=
  if inB s.size 1 16 = true ∧ wide ≤ 2000 ∧ 2 * (s.size : Int) + b.size ≤ wide then s ++ b ++ zs (wide - 2 * (s.size : Int) - b.size).toNat ++ s else ⟨#[]⟩
theorem stamped_no {s b : ByteArray} {wide : Int} (h : ¬ (inB s.size 1 16 = true ∧ wide ≤ 2000 ∧ 2 * (s.size : Int) + b.size ≤ wide)) : Hid (stamped s b wide = ⟨#[]⟩) := if_neg h
theorem stamped_yes {s b : ByteArray} {wide : Int} (h : inB s.size 1 16 = true ∧ wide ≤ 2000 ∧ 2 * (s.size : Int) + b.size ≤ wide) : Hid (stamped s b wide = s ++ b ++ zs (wide - 2 * (s.size : Int) - b.size).toNat ++ s) := if_pos h

set_option maxHeartbeats 1000000 in
theorem cs_Stamped (s0 s1 : ByteArray) (n2 : Int) (w : World) (h0 : s0.size ≤ maxLen) (l0 : s0.size ≤ 1048576) (h1 : s1.size ≤ maxLen) (l1 : s1.size ≤ 1048576) (h2 : I64 n2) :
    Calls Try.prog 86 #[.string s0, .string s1, .int .i64 n2] w (RetV (.string (stamped s0 s1 n2)) w) := by
  clear h0 h1
  obtain ⟨ha, hb⟩ := h2
  by_cases q1 : (s0.size : Int) < 1
  · have H := stamped_no (s := s0) (b := s1) (wide := n2) (by rw [inB_t]; omega)
    go_enter Try.func86, Try.ntmps86
    go_wp2_with fail
    go_ret
    exact ret_str H (Up.refl _)
  have q1' : decide ((s0.size : Int) < 1) = false := by simpa using q1
  by_cases q2 : (16 : Int) < s0.size
  · have H := stamped_no (s := s0) (b := s1) (wide := n2) (by rw [inB_t]; omega)
    go_enter Try.func86, Try.ntmps86
    go_wp2_with fail
    go_ret
    exact ret_str H (Up.refl _)
  have q2' : decide ((16 : Int) < s0.size) = false := by simpa using q2
  by_cases q3 : (2000 : Int) < n2
  · have H := stamped_no (s := s0) (b := s1) (wide := n2) (by omega)
    go_enter Try.func86, Try.ntmps86
    go_wp2_with fail
    go_ret
    exact ret_str H (Up.refl _)
  have q3' : decide ((2000 : Int) < n2) = false := by simpa using q3
  by_cases q4 : n2 < 2 * (s0.size : Int) + s1.size
  · have H := stamped_no (s := s0) (b := s1) (wide := n2) (by omega)
    go_enter Try.func86, Try.ntmps86
    go_wp2_with fail
    go_ret
    exact ret_str H (Up.refl _)
  have q4' : decide (n2 < 2 * (s0.size : Int) + s1.size) = false := by simpa using q4
  have H := stamped_yes (s := s0) (b := s1) (wide := n2) ⟨inB_t.2 (by omega), by omega, by omega⟩
  obtain ⟨m, hm⟩ : ∃ m : Nat, n2 - 2 * (s0.size : Int) - s1.size = m := ⟨(n2 - 2 * (s0.size : Int) - s1.size).toNat, by omega⟩
  have hm2 : m ≤ 2000 := by omega
  obtain ⟨C, hmk, hcv⟩ := run_zs m (by omega)
  rw [hm, Int.toNat_natCast] at H
  rw [← hm] at hmk
  have hzz := zs_size m
  have HM := Lib.hid hm; clear hm
  generalize zs m = z at *
  go_enter Try.func86, Try.ntmps86
  go_wp2_with fail
  go_ret
  exact ret_str H ((Up.refl _).alloc _)

set_option maxHeartbeats 1000000 in
theorem ci_Stamped (s0 s1 : ByteArray) (n2 : Int) (w : World) (h0 : s0.size ≤ maxLen) (l0 : s0.size ≤ 1048576) (h1 : s1.size ≤ maxLen) (l1 : s1.size ≤ 1048576) (h2 : I64 n2) :
    Calls Try.prog 90 #[.string s0, .string s1, .int .i64 n2] w (RetV (.string (stamped s0 s1 n2)) w) := by
  clear h0 h1
  obtain ⟨ha, hb⟩ := h2
  cases q1 : inB s0.size 1 16
  · have H := stamped_no (s := s0) (b := s1) (wide := n2) (by rw [q1]; simp)
    by_cases q0 : 0 < n2
    all_goals
      go_enter Try.func90, Try.ntmps90
      go_wp2_with (go_at_call 62; refine (within_any _ _ _ _).mono ?_; rintro e w' ⟨rfl, rfl⟩)
      go_ret
      exact ret_str H (Up.refl _)
  by_cases q3 : (2000 : Int) < n2
  · have H := stamped_no (s := s0) (b := s1) (wide := n2) (by omega)
    have q0 : 0 < n2 := by omega
    go_enter Try.func90, Try.ntmps90
    go_wp2_with (go_at_call 62; refine (within_any _ _ _ _).mono ?_; rintro e w' ⟨rfl, rfl⟩)
    go_ret
    exact ret_str H (Up.refl _)
  have q3' : decide ((2000 : Int) < n2) = false := by simpa using q3
  have q1b := inB_t.1 q1
  by_cases q0 : 0 < n2
  · have hmx : max 0 n2 = n2 := by omega
    by_cases q4 : n2 - (2 * (s0.size : Int) + s1.size) < 0
    · have H := stamped_no (s := s0) (b := s1) (wide := n2) (by omega)
      go_enter Try.func90, Try.ntmps90
      go_wp2_with (go_at_call 62; refine (within_any _ _ _ _).mono ?_; rintro e w' ⟨rfl, rfl⟩)
      go_ret
      exact ret_str H (Up.refl _)
    have q4' : decide (n2 - (2 * (s0.size : Int) + s1.size) < 0) = false := by simpa using q4
    have H := stamped_yes (s := s0) (b := s1) (wide := n2) ⟨q1, by omega, by omega⟩
    have hm : (n2 - 2 * (s0.size : Int) - s1.size).toNat = (n2 - (2 * (s0.size : Int) + s1.size)).toNat := by omega
    rw [hm] at H
    clear hm
    go_enter Try.func90, Try.ntmps90
    go_wp2_with (go_at_call 62; refine (within_any _ _ _ _).mono ?_; rintro e w' ⟨rfl, rfl⟩)
    refine (c_zeros _ _ (by omega) (by omega)).mono ?_
    rintro e w1 ⟨rfl, u1⟩
    have hzz := zs_size (n2 - (2 * (s0.size : Int) + s1.size)).toNat
    have hm2 : (zs (n2 - (2 * (s0.size : Int) + s1.size)).toNat).size ≤ 2000 := by omega
    clear hzz
    generalize zs (n2 - (2 * (s0.size : Int) + s1.size)).toNat = z at *
    go_wp2_with fail
    go_ret
    exact ret_str H u1
  · have H := stamped_no (s := s0) (b := s1) (wide := n2) (by omega)
    have q4 : 0 - (2 * (s0.size : Int) + s1.size) < 0 := by omega
    go_enter Try.func90, Try.ntmps90
    go_wp2_with (go_at_call 62; refine (within_any _ _ _ _).mono ?_; rintro e w' ⟨rfl, rfl⟩)
    go_ret
    exact ret_str H (Up.refl _)
end Go.Proofs.Ytafabcabffeikaa
