/-
  Keys of pages: keysOk, l15Keys.
-/
import Derived.Test.YtfehlcbaalbajaaGreatDoorKq
namespace Go.Proofs.YtfehlcbaalbajaaGreatDoor
open Go.RowKit
set_option linter.unusedVariables false
set_option linter.unusedSimpArgs false

def KeysP (l : List ByteArray) : Prop := ∀ i (h : i < l.length), keyB l[i] = true ∧ (0 < i → bytesLt (l[i - 1]'(by omega)) l[i] = true)
instance (l : List ByteArray) : Decidable (KeysP l) := by unfold KeysP; infer_instance
def keysB (l : List ByteArray) : Bool := decide (KeysP l)
theorem keysB_t {l : List ByteArray} (h : KeysP l) : keysB l = true := decide_eq_true h
theorem keysB_f {l : List ByteArray} (h : ¬ KeysP l) : keysB l = false := decide_eq_false h
/-- The first k keys are right. -/
def KeysTo (l : List ByteArray) (k : Nat) : Prop := ∀ j (hj : j < l.length), j < k → keyB l[j] = true ∧ (0 < j → bytesLt (l[j - 1]'(by omega)) l[j] = true)
theorem keysTo_one {l : List ByteArray} (h : 0 < l.length) (hk : keyB l[0] = true) : KeysTo l (0 + 1) := fun j hj h1 => by
  obtain rfl : j = 0 := by omega
  exact ⟨hk, fun hh => absurd hh (by omega)⟩
theorem keysTo_succ {l : List ByteArray} {m : Nat} (hm : m + 1 < l.length) (h : KeysTo l (m + 1)) (hk : keyB l[m + 1] = true) (hb : bytesLt l[m] l[m + 1] = true) : KeysTo l (m + 1 + 1) := fun j hj h1 => by
  by_cases e : j = m + 1
  · subst e; exact ⟨hk, fun _ => hb⟩
  · exact h j hj (by omega)
theorem keysP_of {l : List ByteArray} {k : Nat} (hk : l.length ≤ k) (h : KeysTo l k) : KeysP l := fun j hj => h j hj (by omega)
--@begin f{impl.keysOk}
set_option maxRecDepth 100000 in
set_option maxHeartbeats 8000000 in
theorem c_keysOk (xs : List ByteArray) (A : Option Addr) (c : Nat) (w : World) (h : SRW shS w A c xs) (hz : ∀ x ∈ xs, x.size ≤ 1048576) (htab : Tab w) (hm : MaxL w) : Calls Tryz.prog 137 #[.slice A xs.length c] w (RetV (.bool (keysB xs)) w) := by
  have hlen := h.len_le
  have CK := Lib.hid (fun k (hk : k < xs.length) W (u : Up w W) => c_isKey xs[k] W (hz _ (List.getElem_mem hk)) (tab_up htab u) (maxL_up hm u))
  have HF : Hid (¬ KeysP xs → (keysB xs) = false) := Lib.hid (fun hh => by rw [keysB_f hh])
  have HT : Hid (KeysP xs → (keysB xs) = true) := Lib.hid (fun hh => by rw [keysB_t hh])
  generalize (keysB xs) = R at *
  go_enter Tryz.func137, Tryz.ntmps137
  go_wp2_with fail
  go_loopw [7] (fun i wr => ∃ k : Nat, k ≤ xs.length ∧ i = .int .i64 k ∧ Hid (KeysTo xs k) ∧ Up w wr) (fun i _ => xs.length - (intOf i).toNat)
  case atStart => exact ⟨0, Nat.zero_le _, rfl, Lib.hid (fun j hj h1 => absurd h1 (by omega)), Up.refl _⟩
  case round =>
    obtain ⟨k, hk, rfl, HB, hu⟩ := hrel
    by_cases hlt : k < xs.length
    · obtain ⟨g, off, rfl, _, _, hc, hb1⟩ := (h.up good_S hu).at_S hlt
      have ck := Lib.hid (CK.out k hlt)
      cases hkb : keyB xs[k]
      · have HR := Lib.hid (HF.out (fun hh => by have := (hh k hlt).1; rw [hkb] at this; cases this))
        rw [hkb] at ck
        clear HF HT hkb
        by_cases k0 : k = 0
        · subst k0
          have hc' : wr.cell? ⟨g, off, none⟩ = some (.string xs[0]) := by simpa using hc
          clear hc
          go_wp2_with fail
          refine (ck.out _ hu).mono ?_
          rintro e w1 ⟨rfl, u1⟩
          go_wp2_with fail
          refine bodyPost_ret (v := .bool false) (by simp [results, Tryz.results137, go_sem]) rfl ?_
          exact ⟨by rw [HR.out], hu.trans u1⟩
        · obtain ⟨m, rfl⟩ : ∃ m, k = m + 1 := ⟨k - 1, by omega⟩
          obtain ⟨g', off', hgo, _, _, hc0, e0⟩ := (h.up good_S hu).at_S (show m < xs.length by omega)
          injection hgo with hgo
          injection hgo with hg' ho' _
          subst hg' ho'
          have hi0 : (0 : Int) ≤ (m : Int) + 1 := by omega
          have hi2 : (0 : Int) < (m : Int) + 1 := by omega
          have hi1 : (m : Int) + 1 < (xs.length : Int) := by omega
          have hwm : IntKind.i64.wrap (m : Int) = (m : Int) := IntWalk.i64_in _ (by omega)
          have hm0 : (0 : Int) ≤ (m : Int) := by omega
          have hm1 : (m : Int) < (xs.length : Int) := by omega
          go_wp2_with fail
          refine (ck.out _ hu).mono ?_
          rintro e w1 ⟨rfl, u1⟩
          go_wp2_with fail
          refine bodyPost_ret (v := .bool false) (by simp [results, Tryz.results137, go_sem]) rfl ?_
          exact ⟨by rw [HR.out], hu.trans u1⟩
      · rw [hkb] at ck
        by_cases k0 : k = 0
        · subst k0
          have HN := Lib.hid (keysTo_one hlt hkb)
          have hc' : wr.cell? ⟨g, off, none⟩ = some (.string xs[0]) := by simpa using hc
          clear hc
          go_wp2_with fail
          refine (ck.out _ hu).mono ?_
          rintro e w1 ⟨rfl, u1⟩
          have hc1 : w1.cell? _ = _ := (u1.cell (cell_lt hc')).trans hc'
          clear hc'
          go_wp2_with fail
          go_roundw
          case rel => exact ⟨0 + 1, by omega, by go_num, HN, hu.trans u1⟩
          case measure => simp [intOf]; omega
        · obtain ⟨m, rfl⟩ : ∃ m, k = m + 1 := ⟨k - 1, by omega⟩
          obtain ⟨g', off', hgo, _, _, hc0, e0⟩ := (h.up good_S hu).at_S (show m < xs.length by omega)
          injection hgo with hgo
          injection hgo with hg' ho' _
          subst hg' ho'
          have hi0 : (0 : Int) ≤ (m : Int) + 1 := by omega
          have hi2 : (0 : Int) < (m : Int) + 1 := by omega
          have hi1 : (m : Int) + 1 < (xs.length : Int) := by omega
          have hwm : IntKind.i64.wrap (m : Int) = (m : Int) := IntWalk.i64_in _ (by omega)
          have hm0 : (0 : Int) ≤ (m : Int) := by omega
          have hm1 : (m : Int) < (xs.length : Int) := by omega
          cases hlb : bytesLt xs[m] xs[m + 1]
          · have HR := Lib.hid (HF.out (fun hh => by have := (hh (m + 1) hlt).2 (by omega); simp only [Nat.add_sub_cancel] at this; rw [hlb] at this; cases this))
            unfold bytesLt at hlb
            go_wp2_with fail
            refine (ck.out _ hu).mono ?_
            rintro e w1 ⟨rfl, u1⟩
            have hc1 : w1.cell? _ = _ := (u1.cell (cell_lt hc)).trans hc
            have hc01 : w1.cell? _ = _ := (u1.cell (cell_lt hc0)).trans hc0
            clear hc hc0
            go_wp2_with fail
            refine bodyPost_ret (v := .bool false) (by simp [results, Tryz.results137, go_sem]) rfl ?_
            exact ⟨by rw [HR.out], hu.trans u1⟩
          · have HN := Lib.hid (keysTo_succ hlt HB.out hkb hlb)
            unfold bytesLt at hlb
            go_wp2_with fail
            refine (ck.out _ hu).mono ?_
            rintro e w1 ⟨rfl, u1⟩
            have hc1 : w1.cell? _ = _ := (u1.cell (cell_lt hc)).trans hc
            have hc01 : w1.cell? _ = _ := (u1.cell (cell_lt hc0)).trans hc0
            clear hc hc0
            go_wp2_with fail
            go_roundw
            case rel => exact ⟨m + 1 + 1, by omega, by go_num, HN, hu.trans u1⟩
            case measure => simp [intOf]; omega
    · have HR := Lib.hid (HT.out (keysP_of (by omega) HB.out))
      go_wp2_with fail
      refine bodyPost_ret (v := .bool true) (by simp [results, Tryz.results137, go_sem]) rfl ?_
      exact ⟨by rw [HR.out], hu⟩
    --@end
--@begin f{spec.l15Keys}
set_option maxRecDepth 100000 in
set_option maxHeartbeats 8000000 in
theorem c_l15Keys (xs : List ByteArray) (A : Option Addr) (c : Nat) (w : World) (h : SRW shS w A c xs) (hz : ∀ x ∈ xs, x.size ≤ 1048576) : Calls Tryz.prog 135 #[.slice A xs.length c] w (RetV (.bool (keysB xs && decide (xs.length ≤ 6))) w) := by
  have hlen := h.len_le
  have CK := Lib.hid (fun k (hk : k < xs.length) W (u : Up w W) => c_specKeyPlace xs[k] W (hz _ (List.getElem_mem hk)))
  have HF : Hid (¬ KeysP xs → (keysB xs && decide (xs.length ≤ 6)) = false) := Lib.hid (fun hh => by rw [keysB_f hh]; rfl)
  have HT : Hid (KeysP xs → xs.length ≤ 6 → (keysB xs && decide (xs.length ≤ 6)) = true) := Lib.hid (fun hh h6 => by rw [keysB_t hh]; simpa using h6)
  have H6 : Hid (¬ xs.length ≤ 6 → (keysB xs && decide (xs.length ≤ 6)) = false) := Lib.hid (fun hh => by rw [decide_eq_false hh]; simp)
  generalize (keysB xs && decide (xs.length ≤ 6)) = R at *
  go_enter Tryz.func135, Tryz.ntmps135
  go_wp2_with fail
  go_loopw [3] (fun i wr => ∃ k : Nat, k ≤ xs.length ∧ k ≤ 7 ∧ i = .int .i64 k ∧ Hid (KeysTo xs k) ∧ Up w wr) (fun i _ => xs.length - (intOf i).toNat)
  case atStart => exact ⟨0, Nat.zero_le _, Nat.zero_le _, rfl, Lib.hid (fun j hj h1 => absurd h1 (by omega)), Up.refl _⟩
  case round =>
    obtain ⟨k, hk, hk7, rfl, HB, hu⟩ := hrel
    by_cases hlt : k < xs.length ∧ k ≤ 6
    · obtain ⟨hlt, hk6⟩ := hlt
      have hk6i : (k : Int) ≤ 6 := by omega
      obtain ⟨g, off, rfl, _, _, hc, hb1⟩ := (h.up good_S hu).at_S hlt
      have ck := Lib.hid (CK.out k hlt)
      cases hkb : keyB xs[k]
      · have HR := Lib.hid (HF.out (fun hh => by have := (hh k hlt).1; rw [hkb] at this; cases this))
        cases hpo : placeOf xs[k] with
        | some pp => rw [keyB, hpo] at hkb; cases hkb
        | none =>
          rw [hpo] at ck
          clear HF HT H6 hpo hkb
          by_cases k0 : k = 0
          · subst k0
            have hc' : wr.cell? ⟨g, off, none⟩ = some (.string xs[0]) := by simpa using hc
            clear hc
            go_wp2_with fail
            refine (ck.out _ hu).mono ?_
            rintro e w1 ⟨u1, A9, c9, hh9⟩
            obtain ⟨rfl, _⟩ := hh9
            go_wp2_with fail
            go_quiet (fail)
            go_wp2_with fail
            refine bodyPost_ret (v := .bool false) (by simp [results, Tryz.results135, go_sem]) rfl ?_
            exact ⟨by rw [HR.out], (hu.trans u1).drewN _⟩
          · obtain ⟨m, rfl⟩ : ∃ m, k = m + 1 := ⟨k - 1, by omega⟩
            obtain ⟨g', off', hgo, _, _, hc0, e0⟩ := (h.up good_S hu).at_S (show m < xs.length by omega)
            injection hgo with hgo
            injection hgo with hg' ho' _
            subst hg' ho'
            have hi0 : (0 : Int) ≤ (m : Int) + 1 := by omega
            have hi2 : (0 : Int) < (m : Int) + 1 := by omega
            have hi1 : (m : Int) + 1 < (xs.length : Int) := by omega
            have hwm : IntKind.i64.wrap (m : Int) = (m : Int) := IntWalk.i64_in _ (by omega)
            have hm0 : (0 : Int) ≤ (m : Int) := by omega
            have hm1 : (m : Int) < (xs.length : Int) := by omega
            go_wp2_with fail
            refine (ck.out _ hu).mono ?_
            rintro e w1 ⟨u1, A9, c9, hh9⟩
            obtain ⟨rfl, _⟩ := hh9
            go_wp2_with fail
            go_quiet (fail)
            go_wp2_with fail
            refine bodyPost_ret (v := .bool false) (by simp [results, Tryz.results135, go_sem]) rfl ?_
            exact ⟨by rw [HR.out], (hu.trans u1).drewN _⟩
      · cases hpo : placeOf xs[k] with
        | none => rw [keyB, hpo] at hkb; cases hkb
        | some pp =>
          rw [hpo] at ck
          clear hpo
          by_cases k0 : k = 0
          · subst k0
            have HN := Lib.hid (keysTo_one hlt hkb)
            have hc' : wr.cell? ⟨g, off, none⟩ = some (.string xs[0]) := by simpa using hc
            clear hc
            go_wp2_with fail
            refine (ck.out _ hu).mono ?_
            rintro e w1 ⟨u1, A9, c9, hh9⟩
            obtain ⟨rfl, _⟩ := hh9
            have hc1 : w1.cell? _ = _ := (u1.cell (cell_lt hc')).trans hc'
            clear hc'
            go_wp2_with fail
            go_quiet (fail)
            go_wp2_with fail
            go_roundw
            case rel => exact ⟨0 + 1, by omega, by omega, by go_num, HN, (hu.trans u1).drewN _⟩
            case measure => simp [intOf]; omega
          · obtain ⟨m, rfl⟩ : ∃ m, k = m + 1 := ⟨k - 1, by omega⟩
            obtain ⟨g', off', hgo, _, _, hc0, e0⟩ := (h.up good_S hu).at_S (show m < xs.length by omega)
            injection hgo with hgo
            injection hgo with hg' ho' _
            subst hg' ho'
            have hi0 : (0 : Int) ≤ (m : Int) + 1 := by omega
            have hi2 : (0 : Int) < (m : Int) + 1 := by omega
            have hi1 : (m : Int) + 1 < (xs.length : Int) := by omega
            have hwm : IntKind.i64.wrap (m : Int) = (m : Int) := IntWalk.i64_in _ (by omega)
            have hm0 : (0 : Int) ≤ (m : Int) := by omega
            have hm1 : (m : Int) < (xs.length : Int) := by omega
            cases hlb : bytesLt xs[m] xs[m + 1]
            · have HR := Lib.hid (HF.out (fun hh => by have := (hh (m + 1) hlt).2 (by omega); simp only [Nat.add_sub_cancel] at this; rw [hlb] at this; cases this))
              unfold bytesLt at hlb
              go_wp2_with fail
              refine (ck.out _ hu).mono ?_
              rintro e w1 ⟨u1, A9, c9, hh9⟩
              obtain ⟨rfl, _⟩ := hh9
              have hc1 : w1.cell? _ = _ := (u1.cell (cell_lt hc)).trans hc
              have hc01 : w1.cell? _ = _ := (u1.cell (cell_lt hc0)).trans hc0
              clear hc hc0
              go_wp2_with fail
              go_quiet (fail)
              go_wp2_with fail
              refine bodyPost_ret (v := .bool false) (by simp [results, Tryz.results135, go_sem]) rfl ?_
              exact ⟨by rw [HR.out], (hu.trans u1).drewN _⟩
            · have HN := Lib.hid (keysTo_succ hlt HB.out hkb hlb)
              unfold bytesLt at hlb
              go_wp2_with fail
              refine (ck.out _ hu).mono ?_
              rintro e w1 ⟨u1, A9, c9, hh9⟩
              obtain ⟨rfl, _⟩ := hh9
              have hc1 : w1.cell? _ = _ := (u1.cell (cell_lt hc)).trans hc
              have hc01 : w1.cell? _ = _ := (u1.cell (cell_lt hc0)).trans hc0
              clear hc hc0
              go_wp2_with fail
              go_quiet (fail)
              go_wp2_with fail
              go_roundw
              case rel => exact ⟨m + 1 + 1, by omega, by omega, by go_num, HN, (hu.trans u1).drewN _⟩
              case measure => simp [intOf]; omega
    · by_cases h6 : xs.length ≤ 6
      · have hnl : ¬ k < xs.length := fun hh => hlt ⟨hh, by omega⟩
        have HR := Lib.hid (HT.out (keysP_of (by omega) HB.out) h6)
        have h6i : (xs.length : Int) ≤ 6 := by omega
        have hki : ¬ (k : Int) < (xs.length : Int) := by omega
        clear HT HF H6
        go_wp2_with fail
        refine bodyPost_ret (v := .bool true) (by simp [results, Tryz.results135, go_sem]) rfl ?_
        exact ⟨by rw [HR.out], hu⟩
      · have HR := Lib.hid (H6.out h6)
        have h6i : ¬ (xs.length : Int) ≤ 6 := by omega
        have hki : ¬ (k : Int) ≤ 6 := by
          intro hh
          exact hlt ⟨by omega, by omega⟩
        clear HT HF H6
        by_cases hd : (k : Int) < (xs.length : Int)
        · go_wp2_with fail
          refine bodyPost_ret (v := .bool false) (by simp [results, Tryz.results135, go_sem]) rfl ?_
          exact ⟨by rw [HR.out], hu⟩
        · go_wp2_with fail
          refine bodyPost_ret (v := .bool false) (by simp [results, Tryz.results135, go_sem]) rfl ?_
          exact ⟨by rw [HR.out], hu⟩
    --@end
end Go.Proofs.YtfehlcbaalbajaaGreatDoor
