/-
  Whether a node lies at a place or below it: both sides.
-/
import Derived.Test.YtanjmolgpkffoaaGreatDoorM2Kf
import Derived.Test.YtanjmolgpkffoaaGreatDoorM2Pv
namespace Go.Proofs.YtanjmolgpkffoaaGreatDoor
open Go.RowKit
set_option linter.unusedVariables false
set_option linter.unusedSimpArgs false

theorem begB_eq (xs ys : List ByteArray) (b : Bool) (hl : ys.length ≤ xs.length) (h : b = true ↔ xs.take ys.length = ys) : begB xs ys = b := by
  unfold begB
  cases b
  · exact decide_eq_false fun hh => absurd (h.2 hh.2) (by simp)
  · exact decide_eq_true ⟨hl, h.1 rfl⟩
theorem begB_short {xs ys : List ByteArray} (hl : ¬ ys.length ≤ xs.length) : begB xs ys = false := by unfold begB; exact decide_eq_false fun h => hl h.1
set_option maxHeartbeats 4000000 in
theorem c_begins (xs ys : List ByteArray) (A B : Option Addr) (c d : Nat) (w : World) (h : SRW shS w A c xs) (k : SRW shS w B d ys) :
    Calls Tryz.prog 117 #[.slice A xs.length c, .slice B ys.length d] w (RetV (.bool (begB xs ys)) w) := by
  have hl1 := h.len_le
  have hl2 := k.len_le
  have hc := h.1
  by_cases hl : ys.length ≤ xs.length
  · have ce := fun W (hW : Up w W) => c_slEqS (xs.take ys.length) ys A B c d W ((h.take hl).up good_S hW) (k.up good_S hW)
    have htl : (xs.take ys.length).length = ys.length := by rw [List.length_take]; omega
    rw [htl] at ce
    have CE := Lib.hid ce
    have HB := Lib.hid (begB_eq xs ys · hl)
    clear ce htl
    cases A with
    | none =>
      have hx0 : xs.length = 0 := by
        rcases Nat.eq_zero_or_pos xs.length with h0 | hp
        · exact h0
        · obtain ⟨g, off, hA, _⟩ := h.2.2 hp; cases hA
      have hy0 : ys.length = 0 := by omega
      obtain rfl := List.eq_nil_of_length_eq_zero hx0
      obtain rfl := List.eq_nil_of_length_eq_zero hy0
      simp only [List.length_nil] at CE ⊢
      go_enter Tryz.func117, Tryz.ntmps117
      go_wp2_with fail
      refine (CE.out _ (Up.refl _)).mono ?_
      rintro e w1 ⟨b, rfl, hb, u1⟩
      have HQ := Lib.hid (HB.out b hb)
      clear hb
      go_wp2_with fail
      go_ret
      exact ⟨by rw [HQ.out]; first | done | rfl, u1⟩
    | some a =>
      go_enter Tryz.func117, Tryz.ntmps117
      go_wp2_with fail
      refine (CE.out _ (Up.refl _)).mono ?_
      rintro e w1 ⟨b, rfl, hb, u1⟩
      have HQ := Lib.hid (HB.out b hb)
      clear hb
      go_wp2_with fail
      go_ret
      exact ⟨by rw [HQ.out]; first | done | rfl, u1⟩
  · have HQ := Lib.hid (begB_short hl)
    go_enter Tryz.func117, Tryz.ntmps117
    go_wp2_with fail
    go_ret
    exact ⟨by rw [HQ.out]; first | done | rfl, Up.refl _⟩
set_option maxHeartbeats 4000000 in
theorem c_l03Begins (xs ys : List ByteArray) (A B : Option Addr) (c d : Nat) (w : World) (h : SRW shS w A c xs) (k : SRW shS w B d ys) :
    Calls Tryz.prog 71 #[.slice A xs.length c, .slice B ys.length d] w (RetV (.bool (begB xs ys)) w) := by
  have hl1 := h.len_le
  have hl2 := k.len_le
  have hc := h.1
  by_cases hl : ys.length ≤ xs.length
  · have ce := fun W (hW : Up w W) => c_specSameSubs (xs.take ys.length) ys A B c d W ((h.take hl).up good_S hW) (k.up good_S hW)
    have htl : (xs.take ys.length).length = ys.length := by rw [List.length_take]; omega
    rw [htl] at ce
    have CE := Lib.hid ce
    have HB := Lib.hid (begB_eq xs ys · hl)
    clear ce htl
    cases A with
    | none =>
      have hx0 : xs.length = 0 := by
        rcases Nat.eq_zero_or_pos xs.length with h0 | hp
        · exact h0
        · obtain ⟨g, off, hA, _⟩ := h.2.2 hp; cases hA
      have hy0 : ys.length = 0 := by omega
      obtain rfl := List.eq_nil_of_length_eq_zero hx0
      obtain rfl := List.eq_nil_of_length_eq_zero hy0
      simp only [List.length_nil] at CE ⊢
      go_enter Tryz.func71, Tryz.ntmps71
      go_wp2_with fail
      refine (CE.out _ (Up.refl _)).mono ?_
      rintro e w1 ⟨b, rfl, hb, u1⟩
      have HQ := Lib.hid (HB.out b hb)
      clear hb
      go_wp2_with fail
      go_ret
      exact ⟨by rw [HQ.out]; first | done | rfl, u1⟩
    | some a =>
      go_enter Tryz.func71, Tryz.ntmps71
      go_wp2_with fail
      refine (CE.out _ (Up.refl _)).mono ?_
      rintro e w1 ⟨b, rfl, hb, u1⟩
      have HQ := Lib.hid (HB.out b hb)
      clear hb
      go_wp2_with fail
      go_ret
      exact ⟨by rw [HQ.out]; first | done | rfl, u1⟩
  · have HQ := Lib.hid (begB_short hl)
    go_enter Tryz.func71, Tryz.ntmps71
    go_wp2_with fail
    go_ret
    exact ⟨by rw [HQ.out]; first | done | rfl, Up.refl _⟩
set_option maxHeartbeats 4000000 in
theorem c_atOrBelow (n : TNode) (v : Value) (s : ByteArray) (ys : List ByteArray) (B : Option Addr) (d : Nat) (w : World) (h : AV shNode w v n) (k : SRW shS w B d ys) :
    Calls Tryz.prog 118 #[v, .string s, .slice B ys.length d] w (RetV (.bool (atB n (s, ys))) w) := by
  obtain ⟨cs, rfl, h⟩ := h
  obtain ⟨x0, x1, x2⟩ := n
  obtain ⟨A1, c1, rfl, b0, b1, b2⟩ := openNode h
  dsimp only at b0 b1 b2
  clear h
  have uu : Up w (w.alloc (.cells #[.string x0, .slice A1 x1.length c1, .string x2] 91)) := (Up.refl w).alloc _
  have HA : Hid (atB (x0, x1, x2) (s, ys) = (decide (x0 = s) && begB x1 ys)) := rfl
  have cb := fun W (hW : Up w W) => c_begins x1 ys A1 B c1 d W (b1.up good_S hW) (k.up good_S hW)
  generalize begB x1 ys = q at *
  have CB := Lib.hid cb
  clear cb
  by_cases hnm : x0 = s
  · have hbe : (x0.toList == s.toList) = true := by rw [str_beq]; simp [hnm]
    have HQ : Hid (atB (x0, x1, x2) (s, ys) = q) := by unfold Hid; rw [HA.out]; simp [hnm]
    clear hnm HA
    go_enter Tryz.func118, Tryz.ntmps118
    go_wp2_with fail
    refine (CB.out _ uu).mono ?_
    rintro e w1 ⟨rfl, u1⟩
    go_wp2_with fail
    go_ret
    exact ⟨by rw [HQ.out]; first | done | rfl, uu.trans u1⟩
  · have hbe : (x0.toList == s.toList) = false := by rw [str_beq]; simp [hnm]
    have HQ : Hid (atB (x0, x1, x2) (s, ys) = false) := by unfold Hid; rw [HA.out]; simp [hnm]
    clear hnm HA
    go_enter Tryz.func118, Tryz.ntmps118
    go_wp2_with fail
    go_ret
    exact ⟨by rw [HQ.out]; first | done | rfl, uu⟩
set_option maxHeartbeats 4000000 in
theorem c_l03In (n : TNode) (v : Value) (s : ByteArray) (ys : List ByteArray) (B : Option Addr) (d : Nat) (w : World) (h : AV shNode w v n) (k : SRW shS w B d ys) :
    Calls Tryz.prog 73 #[v, .string s, .slice B ys.length d] w (RetV (.bool (atB n (s, ys))) w) := by
  obtain ⟨cs, rfl, h⟩ := h
  obtain ⟨x0, x1, x2⟩ := n
  obtain ⟨A1, c1, rfl, b0, b1, b2⟩ := openNode h
  dsimp only at b0 b1 b2
  clear h
  have uu : Up w (w.alloc (.cells #[.string x0, .slice A1 x1.length c1, .string x2] 91)) := (Up.refl w).alloc _
  have HA : Hid (atB (x0, x1, x2) (s, ys) = (decide (x0 = s) && begB x1 ys)) := rfl
  have cb := fun W (hW : Up w W) => c_l03Begins x1 ys A1 B c1 d W (b1.up good_S hW) (k.up good_S hW)
  generalize begB x1 ys = q at *
  have CB := Lib.hid cb
  clear cb
  by_cases hnm : x0 = s
  · have hbe : (x0.toList == s.toList) = true := by rw [str_beq]; simp [hnm]
    have HQ : Hid (atB (x0, x1, x2) (s, ys) = q) := by unfold Hid; rw [HA.out]; simp [hnm]
    clear hnm HA
    go_enter Tryz.func73, Tryz.ntmps73
    go_wp2_with fail
    refine (CB.out _ uu).mono ?_
    rintro e w1 ⟨rfl, u1⟩
    go_wp2_with fail
    go_ret
    exact ⟨by rw [HQ.out]; first | done | rfl, uu.trans u1⟩
  · have hbe : (x0.toList == s.toList) = false := by rw [str_beq]; simp [hnm]
    have HQ : Hid (atB (x0, x1, x2) (s, ys) = false) := by unfold Hid; rw [HA.out]; simp [hnm]
    clear hnm HA
    go_enter Tryz.func73, Tryz.ntmps73
    go_wp2_with fail
    go_ret
    exact ⟨by rw [HQ.out]; first | done | rfl, uu⟩
end Go.Proofs.YtanjmolgpkffoaaGreatDoor
