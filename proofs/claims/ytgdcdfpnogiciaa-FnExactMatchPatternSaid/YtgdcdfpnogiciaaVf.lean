/-
  Valid patterns: contracts of the reference's l04OK.
-/
import Derived.Test.YtgdcdfpnogiciaaVe
namespace Go.Proofs.Ytgdcdfpnogiciaa
open Go.RowKit
set_option linter.unusedVariables false
set_option linter.unusedSimpArgs false

abbrev codeT : ByteArray := ByteArray.mk #[65, 67, 69, 76, 78, 80, 85]
theorem codeT_is : ∀ (k : Nat) (h : k < 7), isCodeV (codeT[k]'h) = true
  | 0, _ => rfl
  | 1, _ => rfl
  | 2, _ => rfl
  | 3, _ => rfl
  | 4, _ => rfl
  | 5, _ => rfl
  | 6, _ => rfl
  | k + 7, h => absurd h (by omega)
theorem codeT_not {c : UInt8} (H : ∀ (j : Nat) (h : j < 7), codeT[j]'h ≠ c) : isCodeV c = false := by
  have h1 : c ≠ 65 := fun e => H 0 (by decide) e.symm
  have h2 : c ≠ 67 := fun e => H 1 (by decide) e.symm
  have h3 : c ≠ 69 := fun e => H 2 (by decide) e.symm
  have h4 : c ≠ 76 := fun e => H 3 (by decide) e.symm
  have h5 : c ≠ 78 := fun e => H 4 (by decide) e.symm
  have h6 : c ≠ 80 := fun e => H 5 (by decide) e.symm
  have h7 : c ≠ 85 := fun e => H 6 (by decide) e.symm
  simp [isCodeV, h1, h2, h3, h4, h5, h6, h7]
set_option maxHeartbeats 1000000 in
theorem vc_l04Is (c : UInt8) (w : World) : Calls Try.prog 100 #[.int .u8 (c.toNat : Int)] w fun e w' => e = .returned (.bool (isCodeV c)) ∧ w = w' := by
  go_enter Try.func100, Try.ntmps100
  go_wp2
  go_loop [3] (fun i => ∃ k : Nat, k ≤ 7 ∧ i = .int .i64 k ∧ Hid (∀ (j : Nat) (h : j < 7), j < k → codeT[j]'h ≠ c)) (fun i => 7 - (intOf i).toNat)
  case atStart => exact ⟨0, by omega, rfl, by unfold Hid; intro j h hj; omega⟩
  case round =>
    obtain ⟨k, hk, rfl, H⟩ := hrel
    by_cases hlt : k < 7
    · have hs : k < (ByteArray.mk #[65, 67, 69, 76, 78, 80, 85]).size := hlt
      by_cases h : codeT[k]'hlt = c
      · have e2 : ((((ByteArray.mk #[65, 67, 69, 76, 78, 80, 85])[k]'hs).toNat : Int) == (c.toNat : Int)) = true := by
          rw [beq_iff_eq]
          exact congrArg (fun q : UInt8 => (q.toNat : Int)) h
        have HV : Hid (isCodeV c = true) := by unfold Hid; rw [← h]; exact codeT_is k hlt
        clear h
        go_wp2
        go_ret
        exact ⟨by rw [HV.out] <;> rfl, rfl⟩
      · have e2 : ((((ByteArray.mk #[65, 67, 69, 76, 78, 80, 85])[k]'hs).toNat : Int) == (c.toNat : Int)) = false := by
          rw [beq_eq_false_iff_ne]
          intro e
          exact h (UInt8.toNat_inj.1 (by exact_mod_cast e))
        have HN : Hid (∀ (j : Nat) (h : j < 7), j < k + 1 → codeT[j]'h ≠ c) := by
          unfold Hid
          intro j hj hjk
          by_cases e : j = k
          · subst e; exact h
          · exact H.out j hj (by omega)
        clear h
        go_wp2
        go_round
        case rel => exact ⟨k + 1, by omega, by go_num, HN⟩
        case measure => simp [intOf]; omega
    · have HV : Hid (isCodeV c = false) := codeT_not fun j hj => H.out j hj (by omega)
      go_wp2
      go_ret
      exact ⟨by rw [HV.out] <;> rfl, rfl⟩

/-! ### Codes that rise -/
def risesTo (t : ByteArray) (k : Nat) : Prop := ∀ (i : Nat) (h : i < t.size), i < k → isCodeV t[i] = true ∧ (∀ h0 : 0 < i, (t[i - 1]'(by omega)).toNat < t[i].toNat)
theorem risesTo_succ {t : ByteArray} {k : Nat} (h : risesTo t k) (hk : k < t.size) (h1 : isCodeV t[k] = true) (h2 : ∀ h0 : 0 < k, (t[k - 1]'(by omega)).toNat < t[k].toNat) : risesTo t (k + 1) := by
  intro i hi hik
  by_cases e : i = k
  · subst e; exact ⟨h1, h2⟩
  · exact h i hi (by omega)
theorem risesTo_all {t : ByteArray} {k : Nat} (h : risesTo t k) (hk : t.size ≤ k) : risesV t := fun i hi => h i hi (by omega)
open Classical in
noncomputable def risesB (t : ByteArray) : Bool := decide (risesV t)
theorem risesB_t {t : ByteArray} (h : risesV t) : risesB t = true := by simp [risesB, h]
theorem risesB_f {t : ByteArray} (h : ¬ risesV t) : risesB t = false := by simp [risesB, h]

set_option maxHeartbeats 1000000 in
theorem vc_l04CodesOK (t : ByteArray) (w : World) (ht : t.size ≤ maxLen) (hne : t ≠ ⟨#[]⟩) : Calls Try.prog 79 #[.string t] w fun e w' => e = .returned (.bool (risesB t)) ∧ Up w w' := by
  unfold maxLen at ht
  have h0 : t.toList.isEmpty = false := by
    rw [List.isEmpty_eq_false_iff, Ne, ByteArray.toList_eq]
    intro e
    exact hne (by cases t with | mk d => congr 1; simpa using e)
  have h0' : (t.toList == []) = false := by rw [beq_eq_false_iff_ne]; rw [List.isEmpty_eq_false_iff] at h0; exact h0
  clear hne
  go_enter Try.func79, Try.ntmps79
  go_wp2_with fail
  go_loopw [3] (fun i wr => ∃ k : Nat, k ≤ t.size ∧ i = .int .i64 k ∧ Hid (risesTo t k) ∧ Up w wr) (fun i _ => t.size - (intOf i).toNat)
  case atStart => exact ⟨0, by omega, rfl, fun i _ h => absurd h (by omega), Up.refl _⟩
  case round =>
    obtain ⟨k, hk, rfl, H, hu⟩ := hrel
    by_cases hlt : k < t.size
    · cases hcd : isCodeV t[k]
      · have HV : Hid (risesB t = false) := risesB_f fun h => by have := (h k hlt).1; rw [hcd] at this; cases this
        have HC := Lib.hid hcd; clear hcd
        go_wp2_with fail
        go_quiet ((go_at_call 100; exact Calls.quiet_of_same ((vc_l04Is t[k] _).mono (fun _ _ h => ⟨by rw [h.1, HC.out], h.2.symm⟩))))
        go_wp2_with fail
        go_ret
        exact ⟨by rw [HV.out] <;> rfl, hu.drewN _⟩
      · by_cases hk0 : 0 < k
        · have hk1 : (0 : Int) < (k : Int) := by omega
          have hk3 : (0 : Int) ≤ (k : Int) - 1 := by omega
          have hk6 : (1 : Int) ≤ (k : Int) := by omega
          have hk7 : (k : Int) - 1 < (t.size : Int) := by omega
          have hk5 : k - 1 < t.size := by omega
          have hk2 : IntKind.i64.wrap ((k : Int) - 1) = (k : Int) - 1 := IntWalk.i64_in _ (by omega)
          have hk4 : ((k : Int) - 1).toNat = k - 1 := by omega
          by_cases hlt2 : t[k - 1].toNat < t[k].toNat
          · have HN : Hid (risesTo t (k + 1)) := risesTo_succ H.out hlt hcd fun _ => hlt2
            have hd : decide (t[k].toNat ≤ t[k - 1].toNat) = false := by simp; omega
            have HC := Lib.hid hcd; clear hcd
            clear hlt2
            go_wp2_with fail
            go_quiet ((go_at_call 100; exact Calls.quiet_of_same ((vc_l04Is t[k] _).mono (fun _ _ h => ⟨by rw [h.1, HC.out], h.2.symm⟩))))
            go_wp2_with fail
            go_roundw
            case rel => exact ⟨k + 1, by omega, by go_num, HN, hu.drewN _⟩
            case measure => simp [intOf]; omega
          · have HV : Hid (risesB t = false) := risesB_f fun h => hlt2 ((h k hlt).2 hk0)
            have hd : decide (t[k].toNat ≤ t[k - 1].toNat) = true := by simp; omega
            have HC := Lib.hid hcd; clear hcd
            clear hlt2
            go_wp2_with fail
            go_quiet ((go_at_call 100; exact Calls.quiet_of_same ((vc_l04Is t[k] _).mono (fun _ _ h => ⟨by rw [h.1, HC.out], h.2.symm⟩))))
            go_wp2_with fail
            go_ret
            exact ⟨by rw [HV.out] <;> rfl, hu.drewN _⟩
        · have hk1 : decide ((0 : Int) < (k : Int)) = false := by simp; omega
          have HN : Hid (risesTo t (k + 1)) := risesTo_succ H.out hlt hcd fun h => absurd h hk0
          have HC := Lib.hid hcd; clear hcd
          go_wp2_with fail
          go_quiet ((go_at_call 100; exact Calls.quiet_of_same ((vc_l04Is t[k] _).mono (fun _ _ h => ⟨by rw [h.1, HC.out], h.2.symm⟩))))
          go_wp2_with fail
          go_roundw
          case rel => exact ⟨k + 1, by omega, by go_num, HN, hu.drewN _⟩
          case measure => simp [intOf]; omega
    · have HV : Hid (risesB t = true) := risesB_t (risesTo_all H.out (by omega))
      go_wp2_with fail
      go_ret
      exact ⟨by rw [HV.out] <;> rfl, hu⟩
open Classical in
noncomputable def risesF (t : ByteArray) : Bool := if t = ⟨#[]⟩ then false else risesB t
theorem vc_codesAny (t : ByteArray) (w : World) (ht : t.size ≤ maxLen) : Calls Try.prog 79 #[.string t] w fun e w' => e = .returned (.bool (risesF t)) ∧ Up w w' := by
  unfold risesF
  by_cases h : t = ⟨#[]⟩
  · rw [if_pos h]
    subst h
    go_enter Try.func79, Try.ntmps79
    go_wp2_with fail
    go_ret
    exact ⟨rfl, Up.refl _⟩
  · rw [if_neg h]
    exact vc_l04CodesOK t w ht h
end Go.Proofs.Ytgdcdfpnogiciaa
