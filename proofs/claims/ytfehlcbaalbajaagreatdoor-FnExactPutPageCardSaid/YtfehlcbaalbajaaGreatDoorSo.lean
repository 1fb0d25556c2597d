/-
  The reference's order and places: contracts.
-/
import Derived.Test.YtfehlcbaalbajaaGreatDoorNt
import Derived.Deep.QuietTactic
import Derived.BigQuiet
import Derived.StillTailTactics
namespace Go.Proofs.YtfehlcbaalbajaaGreatDoor
open Go.RowKit
set_option linter.unusedVariables false
set_option linter.unusedSimpArgs false

theorem retB {a b : Bool} {w w' : World} (h : Hid (b = a)) (u : Up w w') : RetV (.bool a) w (.returned (.bool b)) w' := ⟨by rw [h.out], u⟩
theorem u8_nB {c d : UInt8} (z : Int) (hz : z = (d.toNat : Int)) (h : c ≠ d) : ((c.toNat : Int) != z) = true := by
  rw [bne_iff_ne, hz]
  exact u8_ne h
theorem c_l02Letter (c : UInt8) (w : World) : Calls Tryz.prog 241 #[.int .u8 (c.toNat : Int)] w fun e w' => e = .returned (.bool (isLetter c)) ∧ w = w' := by
  unfold isLetter
  by_cases h1 : 97 ≤ c.toNat
  · by_cases h2 : c.toNat ≤ 122
    · have h1' : (97 : Int) ≤ (c.toNat : Int) := by omega
      have h2' : (c.toNat : Int) ≤ 122 := by omega
      go_enter Tryz.func241, Tryz.ntmps241
      go_wp2
      go_ret
      exact ⟨by simp [h1, h2], rfl⟩
    · have h1' : (97 : Int) ≤ (c.toNat : Int) := by omega
      have h2' : ¬ (c.toNat : Int) ≤ 122 := by omega
      have h3 : ¬ (c.toNat : Int) ≤ 90 := by omega
      have h3' : ¬ c.toNat ≤ 90 := by omega
      go_enter Tryz.func241, Tryz.ntmps241
      go_wp2
      go_ret
      exact ⟨by simp [h1, h2, h3'], rfl⟩
  · have h1' : ¬ (97 : Int) ≤ (c.toNat : Int) := by omega
    by_cases h3 : 65 ≤ c.toNat
    · by_cases h4 : c.toNat ≤ 90
      · have h3' : (65 : Int) ≤ (c.toNat : Int) := by omega
        have h4' : (c.toNat : Int) ≤ 90 := by omega
        go_enter Tryz.func241, Tryz.ntmps241
        go_wp2
        go_ret
        exact ⟨by simp [h1, h3, h4], rfl⟩
      · have h3' : (65 : Int) ≤ (c.toNat : Int) := by omega
        have h4' : ¬ (c.toNat : Int) ≤ 90 := by omega
        go_enter Tryz.func241, Tryz.ntmps241
        go_wp2
        go_ret
        exact ⟨by simp [h1, h3, h4], rfl⟩
    · have h3' : ¬ (65 : Int) ≤ (c.toNat : Int) := by omega
      go_enter Tryz.func241, Tryz.ntmps241
      go_wp2
      go_ret
      exact ⟨by simp [h1, h3], rfl⟩
theorem c_letterAt (c : UInt8) (z : Int) (w : World) (hz : z = (c.toNat : Int)) : Calls Tryz.prog 241 #[.int .u8 z] w fun e w' => e = .returned (.bool (isLetter c)) ∧ w = w' := by
  subst hz
  exact c_l02Letter c w
theorem c_l02Sub (s : ByteArray) (w : World) : Calls Tryz.prog 235 #[.string s] w fun e w' => e = .returned (.bool (subB s)) ∧ w = w' := by
  unfold subB
  by_cases h1 : 1 ≤ s.size
  · go_enter Tryz.func235, Tryz.ntmps235
    go_wp2
    go_ret
    exact ⟨by simp [h1]; omega, rfl⟩
  · go_enter Tryz.func235, Tryz.ntmps235
    go_wp2
    go_ret
    exact ⟨by simp [h1], rfl⟩
set_option maxRecDepth 100000 in
set_option maxHeartbeats 4000000 in
theorem c_l02Name (s : ByteArray) (w : World) (hs : s.size ≤ maxLen) : Calls Tryz.prog 219 #[.string s] w (RetV (.bool (nameB s)) w) := by
  unfold maxLen at hs
  by_cases h1 : 1 ≤ s.size
  · by_cases h2 : s.size ≤ 8
    · have h1' : (0 : Int) < s.size := by omega
      by_cases hf : chOk 0 s[0] = true
      · have hcase : (isLetter s[0] = true) ∨ (isLetter s[0] = false ∧ (s[0].toNat : Int) = 37 ∧ ((s[0].toNat : Int) != 37) = false) := by
          cases hL : isLetter s[0]
          · refine .inr ⟨rfl, ?_⟩
            have h37 : s[0] = 37 := by simpa [chOk, hL] using hf
            rw [h37]; decide
          · exact .inl rfl
        have HF := Lib.hid hf
        clear hf
        rcases hcase with hL | ⟨hL, h37, b37⟩
        all_goals
          go_enter Tryz.func219, Tryz.ntmps219
          go_wp2_with (go_at_call 241; refine (c_letterAt s[0] _ _ (by omega)).mono ?_; rintro e w1 ⟨rfl, rfl⟩; rw [hL])
          go_loop [3] (fun i => ∃ k : Nat, 1 ≤ k ∧ k ≤ s.size ∧ i = .int .i64 k ∧ Hid (∀ i (h : i < s.size), i < k → chOk i s[i] = true)) (fun i => s.size - (intOf i).toNat)
          case atStart => exact ⟨1, by omega, by omega, rfl, fun i h hi => by obtain rfl : i = 0 := (by omega); exact HF.out⟩
          case round =>
            obtain ⟨k, hk1, hk, rfl, HA⟩ := hrel
            by_cases hlt : k < s.size
            · cases hk2 : chOk k s[k]
              · have hk3 : isLetter s[k] = false ∧ isDig s[k] = false := by
                  have hk0 : k ≠ 0 := by omega
                  simpa [chOk, hk0] using hk2
                obtain ⟨hk4, hk5⟩ := hk3
                have H := Lib.hid (nameB_f (s := s) fun h => by have := h.2.2 k hlt; rw [hk2] at this; cases this)
                clear hL hk2
                go_wp2_with (first | (go_at_call 241; refine (c_l02Letter _ _).mono ?_; rintro e w1 ⟨rfl, rfl⟩; rw [hk4]) | (go_at_call 242; refine (c_l01Digit _ _).mono ?_; rintro e w1 ⟨rfl, rfl⟩; rw [hk5]))
                go_ret
                exact retB (Lib.hid H.out.symm) (Up.refl _)
              · have HN : Hid (∀ i (h : i < s.size), i < k + 1 → chOk i s[i] = true) := fun i h hi => by
                  by_cases e : i = k
                  · subst e; exact hk2
                  · exact HA.out i h (by omega)
                have hk3 : isLetter s[k] = true ∨ (isLetter s[k] = false ∧ isDig s[k] = true) := by
                  have hk0 : k ≠ 0 := by omega
                  cases hq : isLetter s[k]
                  · exact .inr ⟨rfl, by simpa [chOk, hk0, hq] using hk2⟩
                  · exact .inl rfl
                clear hL hk2
                rcases hk3 with hk4 | ⟨hk4, hk5⟩
                all_goals
                  go_wp2_with (first | (go_at_call 241; refine (c_l02Letter _ _).mono ?_; rintro e w1 ⟨rfl, rfl⟩; rw [hk4]) | (go_at_call 242; refine (c_l01Digit _ _).mono ?_; rintro e w1 ⟨rfl, rfl⟩; rw [hk5]))
                  go_round
                  case rel => exact ⟨k + 1, by omega, by omega, by go_num, HN⟩
                  case measure => simp [intOf]; omega
            · have H := Lib.hid (nameB_t (s := s) ⟨h1, h2, fun i h => HA.out i h (by omega)⟩)
              go_wp2
              go_ret
              exact retB (Lib.hid H.out.symm) (Up.refl _)
      · have hcase : isLetter s[0] = false ∧ s[0] ≠ 37 := by
          cases hL : isLetter s[0]
          · refine ⟨rfl, fun h37 => hf ?_⟩
            simp [chOk, hL, h37]
          · exact absurd (by simp [chOk, hL]) hf
        obtain ⟨hL, h37⟩ := hcase
        have n37 := u8_nB 37 rfl h37
        have H := Lib.hid (nameB_f (s := s) fun h => hf (h.2.2 0 h1))
        clear hf h37
        go_enter Tryz.func219, Tryz.ntmps219
        go_wp2_with (go_at_call 241; refine (c_l02Letter _ _).mono ?_; rintro e w1 ⟨rfl, rfl⟩; rw [hL])
        go_ret
        exact retB (Lib.hid H.out.symm) (Up.refl _)
    · have H := Lib.hid (nameB_f (s := s) fun h => by have := h.2.1; omega)
      go_enter Tryz.func219, Tryz.ntmps219
      go_wp2
      go_ret
      exact retB (Lib.hid H.out.symm) (Up.refl w)
  · have H := Lib.hid (nameB_f (s := s) fun h => by have := h.1; omega)
    go_enter Tryz.func219, Tryz.ntmps219
    go_wp2
    go_ret
    exact retB (Lib.hid H.out.symm) (Up.refl w)
set_option maxRecDepth 100000 in
set_option maxHeartbeats 4000000 in
theorem c_l02Before (a b : ByteArray) (w : World) (ha : a.size ≤ maxLen) (hb : b.size ≤ maxLen) : Calls Tryz.prog 200 #[.string a, .string b] w (RetV (.bool (subLt a b)) w) := by
  have hsub : subLt a b = if canon a = true ∧ canon b = true then intLt (numOf a) (numOf b) else if canon a = true then true else if canon b = true then false else bytesLt a b := rfl
  cases hca : canon a <;> cases hcb : canon b
  all_goals
    rw [hca, hcb] at hsub
    simp only [and_self, and_true, true_and, if_true, if_false, Bool.false_eq_true, false_and, and_false] at hsub
    have H := Lib.hid hsub
    clear hsub
    go_enter Tryz.func200, Tryz.ntmps200
    go_wp2_with (first | (go_at_call 222; (with_reducible refine (c_l01Canon a _ ha).mono ?_); rintro e w1 ⟨rfl, u1⟩; rw [hca]) | (go_at_call 222; (with_reducible refine (c_l01Canon b _ hb).mono ?_); rintro e w2 ⟨rfl, u2⟩; rw [hcb]) | (go_at_call 223; (with_reducible refine (c_l01Of a _ ha).mono ?_); rintro e w' ⟨rfl, rfl⟩) | (go_at_call 223; (with_reducible refine (c_l01Of b _ hb).mono ?_); rintro e w' ⟨rfl, rfl⟩))
    go_ret
    exact ⟨by rw [H.out]; first | done | rfl, u1.trans u2⟩
set_option maxRecDepth 100000 in
set_option maxHeartbeats 4000000 in
theorem c_l02SubsBefore (xs ys : List ByteArray) (A B : Option Addr) (c d : Nat) (w : World) (h : SRW shS w A c xs) (k : SRW shS w B d ys) :
    Calls Tryz.prog 181 #[.slice A xs.length c, .slice B ys.length d] w (RetV (.bool (subsLt xs ys)) w) := by
  have hlen := h.len_le
  have klen := k.len_le
  go_enter Tryz.func181, Tryz.ntmps181
  go_wp2_with fail
  go_loopw [5] (fun i wr => ∃ k : Nat, k ≤ xs.length ∧ k ≤ ys.length ∧ i = .int .i64 k ∧ Hid (xs.take k = ys.take k) ∧ Up w wr) (fun i _ => xs.length - (intOf i).toNat)
  case atStart => exact ⟨0, Nat.zero_le _, Nat.zero_le _, rfl, rfl, Up.refl _⟩
  case round =>
    obtain ⟨j, hj, hj', rfl, HT, hu⟩ := hrel
    by_cases hlt : j < xs.length
    · by_cases hlt' : j < ys.length
      · obtain ⟨g, off, rfl, _, _, hc, hb1⟩ := (h.up good_S hu).at_S hlt
        obtain ⟨g', off', rfl, _, _, hc', hb2⟩ := (k.up good_S hu).at_S hlt'
        by_cases he : xs[j] = ys[j]
        · have hx : (xs[j].toList == ys[j].toList) = true := by rw [str_beq]; simp [he]
          have HE := Lib.hid he; clear he
          go_wp2
          go_quiet (fail)
          go_wp2
          go_roundw
          case rel => exact ⟨j + 1, by omega, by omega, by go_num, take_snoc_eq HT.out hlt hlt' HE.out, hu.drewN _⟩
          case measure => simp [intOf]; omega
        · have hx : (xs[j].toList == ys[j].toList) = false := by rw [str_beq]; simp [he]
          have HE : Hid (subsLt xs ys = subLt xs[j] ys[j]) := lex_at lo_sub HT.out hlt hlt' he
          clear he
          go_wp2
          go_quiet (fail)
          generalize hW : wr.drewN _ = W
          have uW : Up w W := by rw [← hW]; exact hu.drewN _
          have hcW : W.cell? ⟨g, off + j, none⟩ = some (.string xs[j]) := by rw [← hW]; exact hc
          have hcW' : W.cell? ⟨g', off' + j, none⟩ = some (.string ys[j]) := by rw [← hW]; exact hc'
          clear hW hc hc'
          go_wp2_with fail
          go_still_tail 8, (by kernel_rfl)
          change wpList _ _ _ _ _ W.drew
          go_wp2_with fail
          refine (c_l02Before xs[j] ys[j] _ (by unfold maxLen; omega) (by unfold maxLen; omega)).mono ?_
          rintro e w1 ⟨rfl, u1⟩
          go_wp2_with fail
          go_ret
          exact ⟨by rw [HE.out]; first | done | rfl, uW.drew.trans u1⟩
      · have HE : Hid (subsLt xs ys = decide (xs.length < ys.length)) := lex_end lo_sub HT.out hj hj' (fun e => hlt' e.2)
        clear HT
        go_wp2
        go_ret
        exact ⟨by rw [HE.out]; simp; try omega, hu⟩
    · have HE : Hid (subsLt xs ys = decide (xs.length < ys.length)) := lex_end lo_sub HT.out hj hj' (fun e => hlt e.1)
      go_wp2
      go_ret
      exact ⟨by rw [HE.out]; simp; try omega, hu⟩
theorem c_SubsBefore (xs ys : List ByteArray) (A B : Option Addr) (c d : Nat) (w : World) (h : SRW shS w A c xs) (k : SRW shS w B d ys) :
    Calls Tryz.prog 155 #[.slice A xs.length c, .slice B ys.length d] w (RetV (.bool (subsLt xs ys)) w) := by
  go_enter Tryz.func155, Tryz.ntmps155
  go_wp2_with fail
  refine (c_l02SubsBefore xs ys A B c d _ h k).mono ?_
  rintro e w1 ⟨rfl, u1⟩
  go_wp2_with fail
  go_ret
  exact ⟨rfl, u1⟩
set_option maxHeartbeats 4000000 in
theorem c_l02Subs (xs : List ByteArray) (A : Option Addr) (c : Nat) (w : World) (h : SRW shS w A c xs) :
    Calls Tryz.prog 215 #[.slice A xs.length c] w (RetV (.bool (subsB xs)) w) := by
  have hlen := h.len_le
  by_cases h4 : xs.length ≤ 4
  · go_enter Tryz.func215, Tryz.ntmps215
    go_wp2_with fail
    go_loopw [3] (fun i wr => ∃ k : Nat, k ≤ xs.length ∧ i = .int .i64 k ∧ Hid (∀ i (h : i < xs.length), i < k → subB xs[i] = true) ∧ Up w wr) (fun i _ => xs.length - (intOf i).toNat)
    case atStart => exact ⟨0, Nat.zero_le _, rfl, fun i h hi => absurd hi (by omega), Up.refl _⟩
    case round =>
      obtain ⟨j, hj, rfl, HA, hu⟩ := hrel
      by_cases hlt : j < xs.length
      · obtain ⟨g, off, rfl, _, _, hc, hb1⟩ := (h.up good_S hu).at_S hlt
        cases hs : subB xs[j]
        · have HE := Lib.hid (subsB_f (l := xs) fun hh => by have := hh.2 j hlt; rw [hs] at this; cases this)
          go_wp2_with (go_at_call 235; refine (c_l02Sub _ _).mono ?_; rintro e w1 ⟨rfl, rfl⟩; rw [hs])
          go_ret
          exact retB (Lib.hid HE.out.symm) hu
        · have HN : Hid (∀ i (h : i < xs.length), i < j + 1 → subB xs[i] = true) := fun i h hi => by
            by_cases e : i = j
            · subst e; exact hs
            · exact HA.out i h (by omega)
          go_wp2_with (go_at_call 235; refine (c_l02Sub _ _).mono ?_; rintro e w1 ⟨rfl, rfl⟩; rw [hs])
          go_roundw
          case rel => exact ⟨j + 1, by omega, by go_num, HN, hu⟩
          case measure => simp [intOf]; omega
      · have HE := Lib.hid (subsB_t (l := xs) ⟨h4, fun i h => HA.out i h (by omega)⟩)
        go_wp2_with fail
        go_ret
        exact retB (Lib.hid HE.out.symm) hu
  · have HE := Lib.hid (subsB_f (l := xs) fun hh => h4 hh.1)
    go_enter Tryz.func215, Tryz.ntmps215
    go_wp2_with fail
    go_ret
    exact retB (Lib.hid HE.out.symm) (Up.refl _)
theorem c_specNameOk (s : ByteArray) (w : World) (hs : s.size ≤ maxLen) : Calls Tryz.prog 196 #[.string s] w (RetV (.bool (nameB s)) w) := by
  go_enter Tryz.func196, Tryz.ntmps196
  go_wp2_with fail
  refine (c_l02Name s _ hs).mono ?_
  rintro e w1 ⟨rfl, u1⟩
  go_wp2_with fail
  go_ret
  exact ⟨rfl, u1⟩
theorem c_specSubsOk (xs : List ByteArray) (A : Option Addr) (c : Nat) (w : World) (h : SRW shS w A c xs) :
    Calls Tryz.prog 197 #[.slice A xs.length c] w (RetV (.bool (subsB xs)) w) := by
  go_enter Tryz.func197, Tryz.ntmps197
  go_wp2_with fail
  refine (c_l02Subs xs A c _ h).mono ?_
  rintro e w1 ⟨rfl, u1⟩
  go_wp2_with fail
  go_ret
  exact ⟨rfl, u1⟩
theorem c_l03Place (s : ByteArray) (xs : List ByteArray) (A : Option Addr) (c : Nat) (w : World) (hs : s.size ≤ maxLen) (h : SRW shS w A c xs) :
    Calls Tryz.prog 178 #[.string s, .slice A xs.length c] w (RetV (.bool (placeB s xs)) w) := by
  unfold placeB
  cases hn : nameB s
  · go_enter Tryz.func178, Tryz.ntmps178
    go_wp2_with fail
    refine (c_specNameOk s _ hs).mono ?_
    rintro e w1 ⟨rfl, u1⟩
    rw [hn]
    go_wp2_with fail
    go_ret
    exact ⟨rfl, u1⟩
  · go_enter Tryz.func178, Tryz.ntmps178
    go_wp2_with fail
    refine (c_specNameOk s _ hs).mono ?_
    rintro e w1 ⟨rfl, u1⟩
    rw [hn]
    go_wp2_with fail
    refine (c_specSubsOk xs A c _ (h.up good_S u1)).mono ?_
    rintro e w2 ⟨rfl, u2⟩
    go_wp2_with fail
    go_ret
    exact ⟨by simp, u1.trans u2⟩
theorem locLt_lt {a b : ByteArray} {xs ys : List ByteArray} (h : bytesLt a b = true) : locLt (a, xs) (b, ys) = true := by simp [locLt, thenLt, h]
theorem locLt_eq {a : ByteArray} {xs ys : List ByteArray} : locLt (a, xs) (a, ys) = subsLt xs ys := by simp [locLt, thenLt, lo_bytes.irr]
theorem locLt_gt {a b : ByteArray} {xs ys : List ByteArray} (h : bytesLt b a = true) : locLt (a, xs) (b, ys) = false := by simp [locLt, thenLt, h, lo_bytes.asym h]
theorem c_l03Less (a b : ByteArray) (xs ys : List ByteArray) (A B : Option Addr) (c d : Nat) (w : World) (h : SRW shS w A c xs) (k : SRW shS w B d ys) :
    Calls Tryz.prog 107 #[.string a, .slice A xs.length c, .string b, .slice B ys.length d] w (RetV (.bool (locLt (a, xs) (b, ys))) w) := by
  rcases lo_bytes.three a b with e | e | e
  · have H := Lib.hid (locLt_lt (xs := xs) (ys := ys) e.1)
    have hlt : Op.bytesLess a.toList b.toList = true := e.1
    clear e
    go_enter Tryz.func107, Tryz.ntmps107
    go_wp2_with fail
    go_ret
    exact retB (Lib.hid H.out.symm) (Up.refl _)
  · obtain ⟨rfl, e1, _⟩ := e
    have H := Lib.hid (locLt_eq (a := a) (xs := xs) (ys := ys))
    have hlt : Op.bytesLess a.toList a.toList = false := e1
    have hbe : (a.toList == a.toList) = true := by simp
    clear e1
    go_enter Tryz.func107, Tryz.ntmps107
    go_wp2_with fail
    refine (c_SubsBefore xs ys A B c d _ h k).mono ?_
    rintro e w1 ⟨rfl, u1⟩
    go_wp2_with fail
    go_ret
    exact ⟨by rw [H.out]; first | done | rfl | simp, u1⟩
  · have H := Lib.hid (locLt_gt (xs := xs) (ys := ys) e.2.1)
    have hlt : Op.bytesLess a.toList b.toList = false := e.1
    have hbe : (a.toList == b.toList) = false := by rw [str_beq]; simp [e.2.2.1]
    clear e
    go_enter Tryz.func107, Tryz.ntmps107
    go_wp2_with fail
    go_ret
    exact retB (Lib.hid H.out.symm) (Up.refl _)
end Go.Proofs.YtfehlcbaalbajaaGreatDoor
