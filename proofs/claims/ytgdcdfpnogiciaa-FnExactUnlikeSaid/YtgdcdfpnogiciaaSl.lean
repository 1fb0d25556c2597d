/-
  Contracts of functions that compare slices.
-/
import Derived.Test.YtgdcdfpnogiciaaRows
import Derived.Test.YtgdcdfpnogiciaaTy
import Derived.Test.YtgdcdfpnogiciaaRep2
import Derived.StillTailTactics
namespace Go.Proofs.Ytgdcdfpnogiciaa
open Go.RowKit
set_option linter.unusedSimpArgs false
set_option linter.unusedVariables false



set_option maxRecDepth 100000 in
set_option maxHeartbeats 1000000 in
theorem c_l02Same (xs ys : List ByteArray) (A B : Option Addr) (c d : Nat) (w : World) (h : SRW shS w A c xs) (k : SRW shS w B d ys) :
    Calls Try.prog 90 #[.slice A xs.length c, .slice B ys.length d] w (EqP (xs = ys) w) := by
  have hlen := h.len_le
  have klen := k.len_le
  by_cases hl : xs.length = ys.length
  · have hb : ((xs.length : Int) != (ys.length : Int)) = false := by simp [hl]
    have HL := Lib.hid hl; clear hl
    go_enter Try.func90, Try.ntmps90
    go_wp2
    go_loopw [5] (fun i wr => ∃ k : Nat, k ≤ xs.length ∧ i = .int .i64 k ∧ Hid (xs.take k = ys.take k) ∧ Up w wr) (fun i _ => xs.length - (intOf i).toNat)
    case atStart => exact ⟨0, Nat.zero_le _, rfl, rfl, Up.refl _⟩
    case round =>
      obtain ⟨j, hj, rfl, HT, hu⟩ := hrel
      by_cases hlt : j < xs.length
      · have hlt' : j < ys.length := by rw [← HL.out]; exact hlt
        obtain ⟨g, off, rfl, _, _, hc, hb1⟩ := (h.up good_S hu).at_S hlt
        obtain ⟨g', off', rfl, _, _, hc', hb2⟩ := (k.up good_S hu).at_S hlt'
        by_cases he : xs[j] = ys[j]
        · have hx : (xs[j].toList == ys[j].toList) = true := by rw [str_beq]; simp [he]
          have HE := Lib.hid he; clear he
          go_wp2
          go_quiet (fail)
          go_wp2
          go_roundw
          case rel => exact ⟨j + 1, by omega, by go_num, take_snoc_eq HT.out hlt hlt' HE.out, hu.drewN _⟩
          case measure => simp [intOf]; omega
        · have hx : (xs[j].toList == ys[j].toList) = false := by rw [str_beq]; simp [he]
          have HE := Lib.hid (ne_of_at hlt hlt' he); clear he
          go_wp2
          go_quiet (fail)
          go_wp2
          go_ret
          exact EqP.f HE.out (hu.drewN _)
      · have HE := Lib.hid (take_all_eq HT.out (by omega) (by rw [← HL.out]; omega))
        go_wp2
        go_ret
        exact EqP.t HE.out hu
  · have hb : ((xs.length : Int) != (ys.length : Int)) = true := by rw [bne_iff_ne]; omega
    have HE := Lib.hid (ne_of_len hl); clear hl
    go_enter Try.func90, Try.ntmps90
    go_wp2
    go_ret
    exact EqP.f HE.out (Up.refl _)

set_option maxRecDepth 100000 in
set_option maxHeartbeats 1000000 in
theorem c_l00Same (xs ys : List Int) (A B : Option Addr) (c d : Nat) (w : World) (h : SRW shI w A c xs) (k : SRW shI w B d ys) :
    Calls Try.prog 62 #[.slice A xs.length c, .slice B ys.length d] w (EqP (xs = ys) w) := by
  have hlen := h.len_le
  have klen := k.len_le
  by_cases hl : xs.length = ys.length
  · have hb : ((xs.length : Int) != (ys.length : Int)) = false := by simp [hl]
    have HL := Lib.hid hl; clear hl
    go_enter Try.func62, Try.ntmps62
    go_wp2
    go_loopw [5] (fun i wr => ∃ k : Nat, k ≤ xs.length ∧ i = .int .i64 k ∧ Hid (xs.take k = ys.take k) ∧ Up w wr) (fun i _ => xs.length - (intOf i).toNat)
    case atStart => exact ⟨0, Nat.zero_le _, rfl, rfl, Up.refl _⟩
    case round =>
      obtain ⟨j, hj, rfl, HT, hu⟩ := hrel
      by_cases hlt : j < xs.length
      · have hlt' : j < ys.length := by rw [← HL.out]; exact hlt
        obtain ⟨g, off, rfl, _, _, hc, hb1⟩ := (h.up good_I hu).at_I hlt
        obtain ⟨g', off', rfl, _, _, hc', hb2⟩ := (k.up good_I hu).at_I hlt'
        by_cases he : xs[j] = ys[j]
        · have hx : (xs[j] != ys[j]) = false := by simp [he]
          have HE := Lib.hid he; clear he
          go_wp2
          go_quiet (fail)
          go_wp2
          go_roundw
          case rel => exact ⟨j + 1, by omega, by go_num, take_snoc_eq HT.out hlt hlt' HE.out, hu.drewN _⟩
          case measure => simp [intOf]; omega
        · have hx : (xs[j] != ys[j]) = true := by simp [he]
          have HE := Lib.hid (ne_of_at hlt hlt' he); clear he
          go_wp2
          go_quiet (fail)
          go_wp2
          go_ret
          exact EqP.f HE.out (hu.drewN _)
      · have HE := Lib.hid (take_all_eq HT.out (by omega) (by rw [← HL.out]; omega))
        go_wp2
        go_ret
        exact EqP.t HE.out hu
  · have hb : ((xs.length : Int) != (ys.length : Int)) = true := by rw [bne_iff_ne]; omega
    have HE := Lib.hid (ne_of_len hl); clear hl
    go_enter Try.func62, Try.ntmps62
    go_wp2
    go_ret
    exact EqP.f HE.out (Up.refl _)

set_option maxRecDepth 100000 in
set_option maxHeartbeats 1000000 in
theorem c_slEqS (xs ys : List ByteArray) (A B : Option Addr) (c d : Nat) (w : World) (h : SRW shS w A c xs) (k : SRW shS w B d ys) :
    Calls Try.prog 47 #[.slice A xs.length c, .slice B ys.length d] w (EqP (xs = ys) w) := by
  have hlen := h.len_le
  have klen := k.len_le
  by_cases hl : xs.length = ys.length
  · have hb : ((xs.length : Int) != (ys.length : Int)) = false := by simp [hl]
    have HL := Lib.hid hl; clear hl
    go_enter Try.func47, Try.ntmps47
    go_wp2
    go_loopw [13] (fun i wr => ∃ k : Nat, k ≤ xs.length ∧ i = .int .i64 k ∧ Hid (xs.take k = ys.take k) ∧ Up w wr) (fun i _ => xs.length - (intOf i).toNat)
    case atStart => exact ⟨0, Nat.zero_le _, rfl, rfl, Up.refl _⟩
    case round =>
      obtain ⟨j, hj, rfl, HT, hu⟩ := hrel
      by_cases hlt : j < xs.length
      · have hlt' : j < ys.length := by rw [← HL.out]; exact hlt
        obtain ⟨g, off, rfl, _, _, hc, hb1⟩ := (h.up good_S hu).at_S hlt
        obtain ⟨g', off', rfl, _, _, hc', hb2⟩ := (k.up good_S hu).at_S hlt'
        by_cases he : xs[j] = ys[j]
        · have hx : (xs[j].toList == ys[j].toList) = true := by rw [str_beq]; simp [he]
          have HE := Lib.hid he; clear he
          go_wp2
          go_quiet (fail)
          go_wp2
          go_roundw
          case rel => exact ⟨j + 1, by omega, by go_num, take_snoc_eq HT.out hlt hlt' HE.out, hu.drewN _⟩
          case measure => simp [intOf]; omega
        · have hx : (xs[j].toList == ys[j].toList) = false := by rw [str_beq]; simp [he]
          have HE := Lib.hid (ne_of_at hlt hlt' he); clear he
          go_wp2
          go_quiet (fail)
          go_wp2
          go_ret
          exact EqP.f HE.out (hu.drewN _)
      · have HE := Lib.hid (take_all_eq HT.out (by omega) (by rw [← HL.out]; omega))
        go_wp2
        go_ret
        exact EqP.t HE.out hu
  · have hb : ((xs.length : Int) != (ys.length : Int)) = true := by rw [bne_iff_ne]; omega
    have HE := Lib.hid (ne_of_len hl); clear hl
    go_enter Try.func47, Try.ntmps47
    go_wp2
    go_ret
    exact EqP.f HE.out (Up.refl _)

set_option maxRecDepth 100000 in
set_option maxHeartbeats 1000000 in
theorem c_slEqI (xs ys : List Int) (A B : Option Addr) (c d : Nat) (w : World) (h : SRW shI w A c xs) (k : SRW shI w B d ys) :
    Calls Try.prog 48 #[.slice A xs.length c, .slice B ys.length d] w (EqP (xs = ys) w) := by
  have hlen := h.len_le
  have klen := k.len_le
  by_cases hl : xs.length = ys.length
  · have hb : ((xs.length : Int) != (ys.length : Int)) = false := by simp [hl]
    have HL := Lib.hid hl; clear hl
    go_enter Try.func48, Try.ntmps48
    go_wp2
    go_loopw [13] (fun i wr => ∃ k : Nat, k ≤ xs.length ∧ i = .int .i64 k ∧ Hid (xs.take k = ys.take k) ∧ Up w wr) (fun i _ => xs.length - (intOf i).toNat)
    case atStart => exact ⟨0, Nat.zero_le _, rfl, rfl, Up.refl _⟩
    case round =>
      obtain ⟨j, hj, rfl, HT, hu⟩ := hrel
      by_cases hlt : j < xs.length
      · have hlt' : j < ys.length := by rw [← HL.out]; exact hlt
        obtain ⟨g, off, rfl, _, _, hc, hb1⟩ := (h.up good_I hu).at_I hlt
        obtain ⟨g', off', rfl, _, _, hc', hb2⟩ := (k.up good_I hu).at_I hlt'
        by_cases he : xs[j] = ys[j]
        · have hx : (xs[j] != ys[j]) = false := by simp [he]
          have HE := Lib.hid he; clear he
          go_wp2
          go_quiet (fail)
          go_wp2
          go_roundw
          case rel => exact ⟨j + 1, by omega, by go_num, take_snoc_eq HT.out hlt hlt' HE.out, hu.drewN _⟩
          case measure => simp [intOf]; omega
        · have hx : (xs[j] != ys[j]) = true := by simp [he]
          have HE := Lib.hid (ne_of_at hlt hlt' he); clear he
          go_wp2
          go_quiet (fail)
          go_wp2
          go_ret
          exact EqP.f HE.out (hu.drewN _)
      · have HE := Lib.hid (take_all_eq HT.out (by omega) (by rw [← HL.out]; omega))
        go_wp2
        go_ret
        exact EqP.t HE.out hu
  · have hb : ((xs.length : Int) != (ys.length : Int)) = true := by rw [bne_iff_ne]; omega
    have HE := Lib.hid (ne_of_len hl); clear hl
    go_enter Try.func48, Try.ntmps48
    go_wp2
    go_ret
    exact EqP.f HE.out (Up.refl _)



end Go.Proofs.Ytgdcdfpnogiciaa
