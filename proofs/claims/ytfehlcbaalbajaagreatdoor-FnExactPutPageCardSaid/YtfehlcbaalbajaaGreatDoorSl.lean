/-
  Contracts of functions that compare slices.
-/
import Derived.Test.YtfehlcbaalbajaaGreatDoorRows
import Derived.Test.YtfehlcbaalbajaaGreatDoorTy
import Derived.Test.YtfehlcbaalbajaaGreatDoorRep2
import Derived.StillTailTactics
namespace Go.Proofs.YtfehlcbaalbajaaGreatDoor
open Go.RowKit
set_option linter.unusedSimpArgs false
set_option linter.unusedVariables false

theorem neq_Seat (a0 b0 : Int) (a1 b1 : Int) (W : World) : (binOp .neq 108 (.agg #[.int .i64 a0, .int .i64 a1]) (.agg #[.int .i64 b0, .int .i64 b1])).run Tryz.prog W = .ok (.bool (decide (¬ ((a0, a1) = (b0, b1))))) W := by
  have u_int64 := Tryz.underlying2
  have i_int64 := Tryz.isAgg2
  have s_int64 := Tryz.sizeOf2
  have hS : Tryz.prog.underlying 108 = some (.struct (Tryz.prog.fieldsOf 108)) := by kernel_rfl
  have hp : Tryz.prog.stoodInHeld 108 = false := by kernel_rfl
  rw [run_neq_struct, show (10000 : Nat) = 9999 + 1 from rfl, run_equalIn_agg W 9999 108 _ _ hS hp]
  simp only [Program.fieldsOf, Tryz.underlying108]
  go_simp
  by_cases h0 : a0 = b0 <;> by_cases h1 : a1 = b1 <;> simp [h0, h1, str_inj]
theorem guard_Seat : Tryz.prog.eqGuardType Tryz.prog.depth 108 = false := by kernel_rfl

theorem neq_Put (a0 b0 : Int) (a1 b1 : ByteArray) (W : World) : (binOp .neq 217 (.agg #[.int .i64 a0, .string a1]) (.agg #[.int .i64 b0, .string b1])).run Tryz.prog W = .ok (.bool (decide (¬ ((a0, a1) = (b0, b1))))) W := by
  have u_int64 := Tryz.underlying2
  have i_int64 := Tryz.isAgg2
  have s_int64 := Tryz.sizeOf2
  have u_string := Tryz.underlying9
  have i_string := Tryz.isAgg9
  have s_string := Tryz.sizeOf9
  have hS : Tryz.prog.underlying 217 = some (.struct (Tryz.prog.fieldsOf 217)) := by kernel_rfl
  have hp : Tryz.prog.stoodInHeld 217 = false := by kernel_rfl
  rw [run_neq_struct, show (10000 : Nat) = 9999 + 1 from rfl, run_equalIn_agg W 9999 217 _ _ hS hp]
  simp only [Program.fieldsOf, Tryz.underlying217]
  go_simp
  by_cases h0 : a0 = b0 <;> by_cases h1 : a1 = b1 <;> simp [h0, h1, str_inj]
theorem guard_Put : Tryz.prog.eqGuardType Tryz.prog.depth 217 = false := by kernel_rfl

set_option maxRecDepth 100000 in
set_option maxHeartbeats 1000000 in
theorem c_l02Same (xs ys : List ByteArray) (A B : Option Addr) (c d : Nat) (w : World) (h : SRW shS w A c xs) (k : SRW shS w B d ys) :
    Calls Tryz.prog 243 #[.slice A xs.length c, .slice B ys.length d] w (EqP (xs = ys) w) := by
  have hlen := h.len_le
  have klen := k.len_le
  by_cases hl : xs.length = ys.length
  · have hb : ((xs.length : Int) != (ys.length : Int)) = false := by simp [hl]
    have HL := Lib.hid hl; clear hl
    go_enter Tryz.func243, Tryz.ntmps243
    go_wp2
    go_loopw [5] (fun i wr => ∃ k : Nat, k ≤ xs.length ∧ i = .int .i64 k ∧ Hid (xs.take k = ys.take k) ∧ Up w wr) (fun i _ => xs.length - (intOf i).toNat)
    case atStart => exact ⟨0, Nat.zero_le _, rfl, rfl, Up.refl _⟩
    case round =>
      obtain ⟨j, hj, rfl, HT, hu⟩ := hrel
      by_cases hlt : j < xs.length
      · have hlt' : j < ys.length := by rw [← HL.out]; exact hlt
        obtain ⟨g, off, rfl, _, _, hc, hb1⟩ := (h.up good_S hu).at_S hlt
        obtain ⟨g', off', rfl, _, _, hc', hb2⟩ := (k.up good_S hu).at_S hlt'
        by_cases he : xs[j] = ys[j]
        · have hx : (xs[j].toList == ys[j].toList) = true := by rw [str_beq]; simp [he]
          have HE := Lib.hid he; clear he
          go_wp2
          go_quiet (fail)
          go_wp2
          go_roundw
          case rel => exact ⟨j + 1, by omega, by go_num, take_snoc_eq HT.out hlt hlt' HE.out, hu.drewN _⟩
          case measure => simp [intOf]; omega
        · have hx : (xs[j].toList == ys[j].toList) = false := by rw [str_beq]; simp [he]
          have HE := Lib.hid (ne_of_at hlt hlt' he); clear he
          go_wp2
          go_quiet (fail)
          go_wp2
          go_ret
          exact EqP.f HE.out (hu.drewN _)
      · have HE := Lib.hid (take_all_eq HT.out (by omega) (by rw [← HL.out]; omega))
        go_wp2
        go_ret
        exact EqP.t HE.out hu
  · have hb : ((xs.length : Int) != (ys.length : Int)) = true := by rw [bne_iff_ne]; omega
    have HE := Lib.hid (ne_of_len hl); clear hl
    go_enter Tryz.func243, Tryz.ntmps243
    go_wp2
    go_ret
    exact EqP.f HE.out (Up.refl _)


set_option maxRecDepth 100000 in
set_option maxHeartbeats 1000000 in
theorem c_slEqS (xs ys : List ByteArray) (A B : Option Addr) (c d : Nat) (w : World) (h : SRW shS w A c xs) (k : SRW shS w B d ys) :
    Calls Tryz.prog 225 #[.slice A xs.length c, .slice B ys.length d] w (EqP (xs = ys) w) := by
  have hlen := h.len_le
  have klen := k.len_le
  by_cases hl : xs.length = ys.length
  · have hb : ((xs.length : Int) != (ys.length : Int)) = false := by simp [hl]
    have HL := Lib.hid hl; clear hl
    go_enter Tryz.func225, Tryz.ntmps225
    go_wp2
    go_loopw [13] (fun i wr => ∃ k : Nat, k ≤ xs.length ∧ i = .int .i64 k ∧ Hid (xs.take k = ys.take k) ∧ Up w wr) (fun i _ => xs.length - (intOf i).toNat)
    case atStart => exact ⟨0, Nat.zero_le _, rfl, rfl, Up.refl _⟩
    case round =>
      obtain ⟨j, hj, rfl, HT, hu⟩ := hrel
      by_cases hlt : j < xs.length
      · have hlt' : j < ys.length := by rw [← HL.out]; exact hlt
        obtain ⟨g, off, rfl, _, _, hc, hb1⟩ := (h.up good_S hu).at_S hlt
        obtain ⟨g', off', rfl, _, _, hc', hb2⟩ := (k.up good_S hu).at_S hlt'
        by_cases he : xs[j] = ys[j]
        · have hx : (xs[j].toList == ys[j].toList) = true := by rw [str_beq]; simp [he]
          have HE := Lib.hid he; clear he
          go_wp2
          go_quiet (fail)
          go_wp2
          go_roundw
          case rel => exact ⟨j + 1, by omega, by go_num, take_snoc_eq HT.out hlt hlt' HE.out, hu.drewN _⟩
          case measure => simp [intOf]; omega
        · have hx : (xs[j].toList == ys[j].toList) = false := by rw [str_beq]; simp [he]
          have HE := Lib.hid (ne_of_at hlt hlt' he); clear he
          go_wp2
          go_quiet (fail)
          go_wp2
          go_ret
          exact EqP.f HE.out (hu.drewN _)
      · have HE := Lib.hid (take_all_eq HT.out (by omega) (by rw [← HL.out]; omega))
        go_wp2
        go_ret
        exact EqP.t HE.out hu
  · have hb : ((xs.length : Int) != (ys.length : Int)) = true := by rw [bne_iff_ne]; omega
    have HE := Lib.hid (ne_of_len hl); clear hl
    go_enter Tryz.func225, Tryz.ntmps225
    go_wp2
    go_ret
    exact EqP.f HE.out (Up.refl _)




end Go.Proofs.YtfehlcbaalbajaaGreatDoor
