/-
  Shared: the length of the common beginning of two strings; both sides.
-/
import Derived.Test.YtfehlcbaalbajaaGreatDoorKy
import Derived.Test.YtfehlcbaalbajaaGreatDoorNm
import Derived.BigQuiet
import Derived.Deep.QuietTactic
namespace Go.Proofs.YtfehlcbaalbajaaGreatDoor
open Go.RowKit
set_option linter.unusedVariables false
set_option linter.unusedSimpArgs false

def sharedL : List UInt8 → List UInt8 → Nat
  | x :: xs, y :: ys => if x = y then sharedL xs ys + 1 else 0
  | _, _ => 0
def sharedN (a b : ByteArray) : Nat := sharedL a.data.toList b.data.toList
theorem sharedL_le : ∀ (a b : List UInt8), sharedL a b ≤ a.length ∧ sharedL a b ≤ b.length
  | [], _ => by simp [sharedL]
  | _ :: _, [] => by simp [sharedL]
  | x :: xs, y :: ys => by
    have := sharedL_le xs ys
    unfold sharedL
    split <;> simp <;> omega
theorem sharedN_le (a b : ByteArray) : sharedN a b ≤ a.size ∧ sharedN a b ≤ b.size := by
  have := sharedL_le a.data.toList b.data.toList
  rwa [slen, slen] at this
theorem sharedL_eq : ∀ (k : Nat) (a b : List UInt8), k ≤ a.length → k ≤ b.length → (∀ i (h1 : i < a.length) (h2 : i < b.length), i < k → a[i] = b[i]) → (∀ (h1 : k < a.length) (h2 : k < b.length), a[k] ≠ b[k]) → sharedL a b = k
  | 0, a, b, _, _, _, hne => by
    cases a with
    | nil => rfl
    | cons x xs =>
      cases b with
      | nil => rfl
      | cons y ys =>
        have := hne (by simp) (by simp)
        simp only [List.getElem_cons_zero] at this
        unfold sharedL
        rw [if_neg this]
  | k + 1, a, b, ha, hb, he, hne => by
    cases a with
    | nil => simp at ha
    | cons x xs =>
      cases b with
      | nil => simp at hb
      | cons y ys =>
        have h0 := he 0 (by simp) (by simp) (by omega)
        simp only [List.getElem_cons_zero] at h0
        unfold sharedL
        rw [if_pos h0]
        congr 1
        refine sharedL_eq k xs ys (by simpa using ha) (by simpa using hb) (fun i h1 h2 hi => ?_) (fun h1 h2 => ?_)
        · have := he (i + 1) (by simpa using h1) (by simpa using h2) (by omega)
          simpa using this
        · have := hne (by simpa using h1) (by simpa using h2)
          simpa using this
theorem sharedN_eq {a b : ByteArray} {k : Nat} (ha : k ≤ a.size) (hb : k ≤ b.size) (he : ∀ i (h1 : i < a.size) (h2 : i < b.size), i < k → a[i] = b[i]) (hne : ∀ (h1 : k < a.size) (h2 : k < b.size), a[k] ≠ b[k]) : sharedN a b = k :=
  sharedL_eq k _ _ (by rw [slen]; exact ha) (by rw [slen]; exact hb) (fun i h1 h2 hi => he i (by rw [slen] at h1; exact h1) (by rw [slen] at h2; exact h2) hi) (fun h1 h2 => hne (by rw [slen] at h1; exact h1) (by rw [slen] at h2; exact h2))
set_option maxRecDepth 100000 in
set_option maxHeartbeats 8000000 in
theorem c_implShared (a b : ByteArray) (w : World) (ha : a.size ≤ 1048576) (hb : b.size ≤ 1048576) : Calls Tryz.prog 97 #[.string a, .string b] w (RetV (.int .i64 (sharedN a b)) w) := by
  go_enter Tryz.func97, Tryz.ntmps97
  go_wp2_with fail
  go_loopw [5] (fun i wr => ∃ k : Nat, i = .int .i64 k ∧ k ≤ a.size ∧ k ≤ b.size ∧ Hid (∀ i (h1 : i < a.size) (h2 : i < b.size), i < k → a[i] = b[i]) ∧ Up w wr) (fun i _ => a.size - (intOf i).toNat)
  case atStart => exact ⟨0, rfl, Nat.zero_le _, Nat.zero_le _, fun i h1 h2 hi => absurd hi (by omega), Up.refl _⟩
  case round =>
    obtain ⟨k, rfl, hka, hkb, HE, hu⟩ := hrel
    by_cases h1 : k < a.size
    · by_cases h2 : k < b.size
      · have i0 : (0 : Int) ≤ (k : Int) := by omega
        have i1 : (k : Int) < (a.size : Int) := by omega
        have i2 : (k : Int) < (b.size : Int) := by omega
        by_cases he : a[k] = b[k]
        · have HN : Hid (∀ i (h1 : i < a.size) (h2 : i < b.size), i < k + 1 → a[i] = b[i]) := fun i h1 h2 hi => by
            by_cases e : i = k
            · subst e; exact he
            · exact HE.out i h1 h2 (by omega)
          have hbe : ((a[k].toNat : Int) == (b[k].toNat : Int)) = true := by rw [he]; simp
          have hbe2 : (a[k].toNat : Int) = (b[k].toNat : Int) := u8_eq he
          clear he
          go_wp2_with fail
          refine wp_region_up (by kernel_rfl) (by kernel_rfl) ?_
          repeat (go_big_quiet_step (fail))
          refine wpQuiet_nil ?_
          rintro _ ⟨⟨w1, u1⟩, rfl⟩
          go_wp2_with fail
          go_roundw
          case rel => exact ⟨k + 1, by go_num, by omega, by omega, HN, hu.trans u1⟩
          case measure => simp [intOf]; omega
        · have HS : Hid (sharedN a b = k) := sharedN_eq hka hkb HE.out (fun _ _ => he)
          have hbe : ((a[k].toNat : Int) == (b[k].toNat : Int)) = false := by simpa using u8_ne he
          have hbe2 := u8_ne he
          clear he
          go_wp2_with fail
          refine wp_region_up (by kernel_rfl) (by kernel_rfl) ?_
          repeat (go_big_quiet_step (fail))
          refine wpQuiet_nil ?_
          rintro _ ⟨⟨w1, u1⟩, rfl⟩
          go_wp2_with fail
          go_ret
          exact ⟨by rw [HS.out]; first | done | rfl, hu.trans u1⟩
      · have HS : Hid (sharedN a b = k) := sharedN_eq hka hkb HE.out (fun _ h => absurd h h2)
        have i1 : (k : Int) < (a.size : Int) := by omega
        have d2 : decide ((k : Int) < (b.size : Int)) = false := by simp; omega
        go_wp2_with fail
        refine wp_region_up (by kernel_rfl) (by kernel_rfl) ?_
        repeat (go_big_quiet_step (fail))
        refine wpQuiet_nil ?_
        rintro _ ⟨⟨w1, u1⟩, rfl⟩
        go_wp2_with fail
        go_ret
        exact ⟨by rw [HS.out]; first | done | rfl, hu.trans u1⟩
    · have HS : Hid (sharedN a b = k) := sharedN_eq hka hkb HE.out (fun h _ => absurd h h1)
      have d1 : decide ((k : Int) < (a.size : Int)) = false := by simp; omega
      go_wp2_with fail
      refine wp_region_up (by kernel_rfl) (by kernel_rfl) ?_
      repeat (go_big_quiet_step (fail))
      refine wpQuiet_nil ?_
      rintro _ ⟨⟨w1, u1⟩, rfl⟩
      go_wp2_with fail
      go_ret
      exact ⟨by rw [HS.out]; first | done | rfl, hu.trans u1⟩
set_option maxRecDepth 100000 in
set_option maxHeartbeats 8000000 in
theorem c_specShared (a b : ByteArray) (w : World) (ha : a.size ≤ 1048576) (hb : b.size ≤ 1048576) : Calls Tryz.prog 94 #[.string a, .string b] w (RetV (.int .i64 (sharedN a b)) w) := by
  go_enter Tryz.func94, Tryz.ntmps94
  go_wp2_with fail
  go_loopw [5] (fun i wr => ∃ k : Nat, i = .int .i64 k ∧ k ≤ a.size ∧ k ≤ b.size ∧ Hid (∀ i (h1 : i < a.size) (h2 : i < b.size), i < k → a[i] = b[i]) ∧ Up w wr) (fun i _ => a.size - (intOf i).toNat)
  case atStart => exact ⟨0, rfl, Nat.zero_le _, Nat.zero_le _, fun i h1 h2 hi => absurd hi (by omega), Up.refl _⟩
  case round =>
    obtain ⟨k, rfl, hka, hkb, HE, hu⟩ := hrel
    by_cases h1 : k < a.size
    · by_cases h2 : k < b.size
      · have i0 : (0 : Int) ≤ (k : Int) := by omega
        have i1 : (k : Int) < (a.size : Int) := by omega
        have i2 : (k : Int) < (b.size : Int) := by omega
        by_cases he : a[k] = b[k]
        · have HN : Hid (∀ i (h1 : i < a.size) (h2 : i < b.size), i < k + 1 → a[i] = b[i]) := fun i h1 h2 hi => by
            by_cases e : i = k
            · subst e; exact he
            · exact HE.out i h1 h2 (by omega)
          have hbe : ((a[k].toNat : Int) == (b[k].toNat : Int)) = true := by rw [he]; simp
          have hbe2 : (a[k].toNat : Int) = (b[k].toNat : Int) := u8_eq he
          clear he
          go_wp2_with fail
          refine wp_region_up (by kernel_rfl) (by kernel_rfl) ?_
          repeat (go_big_quiet_step (fail))
          refine wpQuiet_nil ?_
          rintro _ ⟨⟨w1, u1⟩, rfl⟩
          go_wp2_with fail
          go_roundw
          case rel => exact ⟨k + 1, by go_num, by omega, by omega, HN, hu.trans u1⟩
          case measure => simp [intOf]; omega
        · have HS : Hid (sharedN a b = k) := sharedN_eq hka hkb HE.out (fun _ _ => he)
          have hbe : ((a[k].toNat : Int) == (b[k].toNat : Int)) = false := by simpa using u8_ne he
          have hbe2 := u8_ne he
          clear he
          go_wp2_with fail
          refine wp_region_up (by kernel_rfl) (by kernel_rfl) ?_
          repeat (go_big_quiet_step (fail))
          refine wpQuiet_nil ?_
          rintro _ ⟨⟨w1, u1⟩, rfl⟩
          go_wp2_with fail
          go_ret
          exact ⟨by rw [HS.out]; first | done | rfl, hu.trans u1⟩
      · have HS : Hid (sharedN a b = k) := sharedN_eq hka hkb HE.out (fun _ h => absurd h h2)
        have i1 : (k : Int) < (a.size : Int) := by omega
        have d2 : decide ((k : Int) < (b.size : Int)) = false := by simp; omega
        go_wp2_with fail
        refine wp_region_up (by kernel_rfl) (by kernel_rfl) ?_
        repeat (go_big_quiet_step (fail))
        refine wpQuiet_nil ?_
        rintro _ ⟨⟨w1, u1⟩, rfl⟩
        go_wp2_with fail
        go_ret
        exact ⟨by rw [HS.out]; first | done | rfl, hu.trans u1⟩
    · have HS : Hid (sharedN a b = k) := sharedN_eq hka hkb HE.out (fun h _ => absurd h h1)
      have d1 : decide ((k : Int) < (a.size : Int)) = false := by simp; omega
      go_wp2_with fail
      refine wp_region_up (by kernel_rfl) (by kernel_rfl) ?_
      repeat (go_big_quiet_step (fail))
      refine wpQuiet_nil ?_
      rintro _ ⟨⟨w1, u1⟩, rfl⟩
      go_wp2_with fail
      go_ret
      exact ⟨by rw [HS.out]; first | done | rfl, hu.trans u1⟩
end Go.Proofs.YtfehlcbaalbajaaGreatDoor
