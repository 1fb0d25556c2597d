/-
  The program's texts of numbers: contracts of NumText, IsCanon; cmp.Compare.
-/
import Derived.Test.YtfehlcbaalbajaaGreatDoorNi
import Derived.Test.YtfehlcbaalbajaaGreatDoorBas
import Derived.Deep.DeepCutAuto
namespace Go.Proofs.YtfehlcbaalbajaaGreatDoor
open Go.RowKit
set_option linter.unusedVariables false
set_option linter.unusedSimpArgs false

theorem c_format (k : Nat) (q : Int) (w : World) (hq : q = (k : Int)) (h1 : k ≤ 9223372036854775807) (htab : Tab w) : Calls Tryz.prog 247 #[.int .i64 q, .int .i64 10] w (RetV (.string (bs (decT k))) w) := by
  subst hq
  refine (Tryz.strconv_FormatInt_10 (k : Int) (by omega) (by omega) w htab).mono fun e w' ⟨he, q, os, hw⟩ => ⟨?_, by rw [hw]; exact up_grow w q os⟩
  rw [he]
  have : Lib.itoa (k : Int) = decT k := by unfold Lib.itoa decT; rw [if_neg (by omega), Int.toNat_natCast]
  rw [this]; rfl
theorem c_trimRightZ (l : List UInt8) (w : World) (hs : (bs l).size ≤ 9223372036854775807) : Calls Tryz.prog 248 #[.string (bs l), .string ⟨#[48]⟩] w (RetV (.string (bs (trimZ l))) w) :=
  (Tryz.strings_TrimRight_one (bs l) 48 (by decide) w hs).mono fun e w' ⟨he, hw⟩ => ⟨by rw [he, bs_toList]; rfl, by rw [hw]; exact Up.refl w⟩
theorem c_isNum (n : Int) (w : World) (h : n.natAbs ≤ 999999999999999999) : Calls Tryz.prog 246 #[.int .i64 n] w fun e w' => e = .returned (.bool true) ∧ w = w' := by
  have hb : inB n (-999999999999999999) 999999999999999999 = true := inB_t.2 (by omega)
  go_enter Tryz.func246, Tryz.ntmps246
  go_wp2_with fail
  refine (within_any _ _ _ _).mono ?_
  rintro e w' ⟨rfl, rfl⟩
  rw [hb]
  go_wp2_with fail
  go_ret
  exact ⟨rfl, rfl⟩
set_option maxRecDepth 100000 in
set_option maxHeartbeats 4000000 in
theorem c_NumText (n : Int) (w : World) (h : n.natAbs ≤ 999999999999999999) (htab : Tab w) : Calls Tryz.prog 226 #[.int .i64 n] w (RetV (.string (numText n)) w) := by
  by_cases h0 : n = 0
  · subst h0
    go_enter Tryz.func226, Tryz.ntmps226
    go_wp2_with fail
    refine (c_isNum _ _ (by simp)).mono ?_
    rintro e w' ⟨rfl, rfl⟩
    go_wp2_with fail
    go_ret
    exact ⟨rfl, Up.refl _⟩
  · obtain ⟨k, hk0, hk, hks⟩ : ∃ k : Nat, 0 < k ∧ k ≤ 999999999999999999 ∧ (n = -(k : Int) ∨ n = (k : Int)) := ⟨n.natAbs, by omega, by omega, by omega⟩
    have hq0 : decT (k / 1000000) = wholeT (k / 1000000) ∨ k / 1000000 = 0 := by
      by_cases hz : k / 1000000 = 0
      · exact .inr hz
      · exact .inl (by unfold wholeT; rw [if_neg hz])
    have cF := fun (q : Int) (m : Nat) (w : World) (h1 : q = (m : Int)) (h2 : m ≤ 1000000000000) (ht : Tab w) => c_format m q w h1 (by omega) ht
    have hdl := decT_length (k / 1000000) (by omega)
    have hds := bs_size (decT (k / 1000000))
    have hr6 : k % 1000000 < 1000000 := by omega
    have hD := decT_million hr6
    have hDl : (decT (1000000 + k % 1000000)).length = 7 := by rw [hD]; rfl
    have hs7 : (bs (decT (1000000 + k % 1000000))).size = 7 := by rw [bs_size, hDl]
    have hext : (bs (decT (1000000 + k % 1000000))).extract 1 7 = bs ((decT (1000000 + k % 1000000)).drop 1) := by rw [bs_extract, List.take_of_length_le (by omega)]
    have cR := fun w => c_trimRightZ ((decT (1000000 + k % 1000000)).drop 1) w (by rw [bs_size, List.length_drop]; omega)
    have htz : (bs (trimZ ((decT (1000000 + k % 1000000)).drop 1))).size ≤ 7 := by rw [bs_size]; have := trimZ_len ((decT (1000000 + k % 1000000)).drop 1); rw [List.length_drop] at this; omega
    have hneg : numText (-(k : Int)) = bs (45 :: (wholeT (k / 1000000) ++ fracT (k % 1000000))) := by
      unfold numText textL
      rw [if_neg (by omega), if_pos (by omega), Int.natAbs_neg, Int.natAbs_natCast]; rfl
    have hpos : numText (k : Int) = bs (wholeT (k / 1000000) ++ fracT (k % 1000000)) := by
      unfold numText textL
      rw [if_neg (by omega), if_neg (by omega), Int.natAbs_natCast]; rfl
    have hfrac : fracT (k % 1000000) = if k % 1000000 = 0 then [] else 46 :: trimZ ((decT (1000000 + k % 1000000)).drop 1) := rfl
    have hwh : wholeT (k / 1000000) = if k / 1000000 = 0 then [] else decT (k / 1000000) := rfl
    have HF := Lib.hid @cF
    have HR := Lib.hid cR
    clear cF cR
    obtain ⟨M, hM⟩ : ∃ M, M = 1000000 + k % 1000000 := ⟨_, rfl⟩
    rw [← hM] at hDl hs7 hext htz HR hfrac
    have HM := Lib.hid hM
    have hMb : M ≤ 1000000000000 := by omega
    have e1 : (1000000 : Int) + (k : Int) % 1000000 = (M : Int) := by omega
    have HE := Lib.hid e1
    have HMb := Lib.hid hMb
    clear e1 hMb
    obtain ⟨D, hDD⟩ : ∃ D, D = (decT M).drop 1 := ⟨_, rfl⟩
    rw [← hDD] at hext htz HR hfrac
    clear hD hM hDD
    have HQ := Lib.hid (show (k : Int) / 1000000 = ((k / 1000000 : Nat) : Int) by omega)
    have hri0 : ¬ (k % 1000000 = 0) → (0 : Int) < (k : Int) % 1000000 := by omega
    have hri1 : k % 1000000 = 0 → ¬ (0 : Int) < (k : Int) % 1000000 := by omega
    have hqi0 : k < 1000000 → ¬ (1000000 : Int) ≤ (k : Int) := by omega
    have hqi1 : ¬ k < 1000000 → (1000000 : Int) ≤ (k : Int) := by omega
    have hk1 : (0 : Int) < (k : Int) := by omega
    have hk2 : (k : Int) ≤ 999999999999999999 := by omega
    have hk3 : n = -(k : Int) ∨ n = (k : Int) := hks
    have hq1 : k / 1000000 ≤ 1000000000000 := by omega
    have HQB := Lib.hid hq1
    clear hks hq1
    generalize hmk : (k : Int) = m at *
    clear hmk
    rcases hk3 with rfl | hk4
    · have hn : numText (-m) = bs (45 :: (wholeT (k / 1000000) ++ fracT (k % 1000000))) := hneg
      clear hneg hpos
      have hlt : -m < 0 := by omega
      have hbd : -(999999999999999999 : Int) ≤ -m := by omega
      by_cases hq : k < 1000000
      · rw [hwh, if_pos (by omega)] at hn
        have hqi := hqi0 hq
        by_cases hr : k % 1000000 = 0
        · exfalso; omega
        · rw [hfrac, if_neg hr] at hn
          have hri := hri0 hr
          have hn2 : numText (-m) = ((⟨#[45]⟩ : ByteArray)) ++ (⟨#[46]⟩ ++ bs (trimZ D)) := by
            rw [hn]
            exact (bs_append [45] ([46] ++ trimZ D)).trans (by rw [bs_append]; try rfl)
          have H := Lib.hid hn2
          have g45 : (ByteArray.mk #[45]).size = 1 := rfl
          have g46 : (ByteArray.mk #[46]).size = 1 := rfl
          have g00 : (ByteArray.mk #[]).size = 0 := rfl
          have g2 : ¬ 9223372036854775807 < (ByteArray.mk #[46]).size + (bs (trimZ D)).size := by omega
          have g3 : ¬ 9223372036854775807 < (⟨#[45]⟩ : ByteArray).size + (⟨#[46]⟩ ++ bs (trimZ D) : ByteArray).size := by simp only [ByteArray.size_append, g45, g46, g00]; omega
          clear hn hn2 hwh hfrac hdl hds hDl hr6 g45 g46 g00 hr hq hq0 hk0 hk htz hri0 hri1 hqi0 hqi1 h0 h
          go_enter Tryz.func226, Tryz.ntmps226
          go_wp2_with (first | (go_at_call 246; (with_reducible refine (c_isNum _ _ (by omega)).mono ?_); rintro e w' ⟨rfl, rfl⟩) | (go_at_call 247; (with_reducible refine (HF.out _ M _ HE.out HMb.out htab).mono ?_); rintro e w2 ⟨rfl, u2⟩) | (go_at_call 248; (with_reducible refine (HR.out _).mono ?_); rintro e w3 ⟨rfl, u3⟩))
          go_ret
          exact ⟨by rw [H.out]; first | done | rfl, (u2).trans u3⟩
      · rw [hwh, if_neg (by omega)] at hn
        have hqi := hqi1 hq
        by_cases hr : k % 1000000 = 0
        · rw [hfrac, if_pos hr] at hn
          have hri := hri1 hr
          have hn2 : numText (-m) = (⟨#[45]⟩ : ByteArray) ++ bs (decT (k / 1000000)) := by
            rw [hn]
            exact (by rw [List.append_nil]; exact bs_append [45] _)
          have H := Lib.hid hn2
          have g45 : (ByteArray.mk #[45]).size = 1 := rfl
          have g46 : (ByteArray.mk #[46]).size = 1 := rfl
          have g00 : (ByteArray.mk #[]).size = 0 := rfl
          have g4 : (⟨#[]⟩ ++ bs (decT (k / 1000000)) : ByteArray) = bs (decT (k / 1000000)) := ByteArray.empty_append
          have g1 : ¬ 9223372036854775807 < (ByteArray.mk #[45]).size + (bs (decT (k / 1000000))).size := by omega
          clear hn hn2 hwh hfrac hdl hds hDl hr6 g45 g46 g00 hr hq hq0 hk0 hk htz hri0 hri1 hqi0 hqi1 h0 h
          go_enter Tryz.func226, Tryz.ntmps226
          go_wp2_with (first | (go_at_call 246; (with_reducible refine (c_isNum _ _ (by omega)).mono ?_); rintro e w' ⟨rfl, rfl⟩) | (go_at_call 247; (with_reducible refine (HF.out _ (k / 1000000) _ HQ.out HQB.out htab).mono ?_); rintro e w1 ⟨rfl, u1⟩; have htab1 := tab_up htab u1))
          go_ret
          exact ⟨by rw [H.out]; first | done | rfl, u1⟩
        · rw [hfrac, if_neg hr] at hn
          have hri := hri0 hr
          have hn2 : numText (-m) = ((⟨#[45]⟩ : ByteArray) ++ bs (decT (k / 1000000))) ++ (⟨#[46]⟩ ++ bs (trimZ D)) := by
            rw [hn]
            exact (bs_append ([45] ++ decT (k / 1000000)) ([46] ++ trimZ D)).trans (by rw [bs_append, bs_append]; try rfl)
          have H := Lib.hid hn2
          have g45 : (ByteArray.mk #[45]).size = 1 := rfl
          have g46 : (ByteArray.mk #[46]).size = 1 := rfl
          have g00 : (ByteArray.mk #[]).size = 0 := rfl
          have g4 : (⟨#[]⟩ ++ bs (decT (k / 1000000)) : ByteArray) = bs (decT (k / 1000000)) := ByteArray.empty_append
          have g1 : ¬ 9223372036854775807 < (ByteArray.mk #[45]).size + (bs (decT (k / 1000000))).size := by omega
          have g2 : ¬ 9223372036854775807 < (ByteArray.mk #[46]).size + (bs (trimZ D)).size := by omega
          have g3 : ¬ 9223372036854775807 < (⟨#[45]⟩ ++ bs (decT (k / 1000000)) : ByteArray).size + (⟨#[46]⟩ ++ bs (trimZ D) : ByteArray).size := by simp only [ByteArray.size_append, g45, g46, g00]; omega
          clear hn hn2 hwh hfrac hdl hds hDl hr6 g45 g46 g00 hr hq hq0 hk0 hk htz hri0 hri1 hqi0 hqi1 h0 h
          go_enter Tryz.func226, Tryz.ntmps226
          go_wp2_with (first | (go_at_call 246; (with_reducible refine (c_isNum _ _ (by omega)).mono ?_); rintro e w' ⟨rfl, rfl⟩) | (go_at_call 247; (with_reducible refine (HF.out _ (k / 1000000) _ HQ.out HQB.out htab).mono ?_); rintro e w1 ⟨rfl, u1⟩; have htab1 := tab_up htab u1) | (go_at_call 247; (with_reducible refine (HF.out _ M _ HE.out HMb.out htab1).mono ?_); rintro e w2 ⟨rfl, u2⟩) | (go_at_call 248; (with_reducible refine (HR.out _).mono ?_); rintro e w3 ⟨rfl, u3⟩))
          go_ret
          exact ⟨by rw [H.out]; first | done | rfl, ((u1).trans u2).trans u3⟩
    · replace hk4 := hk4.symm
      subst hk4
      have hn : numText m = bs ((wholeT (k / 1000000) ++ fracT (k % 1000000))) := hpos
      clear hneg hpos
      by_cases hq : k < 1000000
      · rw [hwh, if_pos (by omega)] at hn
        have hqi := hqi0 hq
        by_cases hr : k % 1000000 = 0
        · exfalso; omega
        · rw [hfrac, if_neg hr] at hn
          have hri := hri0 hr
          have hn2 : numText (m) = (⟨#[46]⟩ ++ bs (trimZ D)) := by
            rw [hn]
            exact bs_append [46] _
          have H := Lib.hid hn2
          have g45 : (ByteArray.mk #[45]).size = 1 := rfl
          have g46 : (ByteArray.mk #[46]).size = 1 := rfl
          have g00 : (ByteArray.mk #[]).size = 0 := rfl
          have g2 : ¬ 9223372036854775807 < (ByteArray.mk #[46]).size + (bs (trimZ D)).size := by omega
          have g5 : (⟨#[]⟩ ++ (⟨#[46]⟩ ++ bs (trimZ D)) : ByteArray) = ⟨#[46]⟩ ++ bs (trimZ D) := ByteArray.empty_append
          have g3 : ¬ 9223372036854775807 < (⟨#[]⟩ : ByteArray).size + (⟨#[46]⟩ ++ bs (trimZ D) : ByteArray).size := by simp only [ByteArray.size_append, g45, g46, g00]; omega
          clear hn hn2 hwh hfrac hdl hds hDl hr6 g45 g46 g00 hr hq hq0 hk0 hk htz hri0 hri1 hqi0 hqi1 h0 h
          go_enter Tryz.func226, Tryz.ntmps226
          go_wp2_with (first | (go_at_call 246; (with_reducible refine (c_isNum _ _ (by omega)).mono ?_); rintro e w' ⟨rfl, rfl⟩) | (go_at_call 247; (with_reducible refine (HF.out _ M _ HE.out HMb.out htab).mono ?_); rintro e w2 ⟨rfl, u2⟩) | (go_at_call 248; (with_reducible refine (HR.out _).mono ?_); rintro e w3 ⟨rfl, u3⟩))
          go_ret
          exact ⟨by rw [H.out]; first | done | rfl, (u2).trans u3⟩
      · rw [hwh, if_neg (by omega)] at hn
        have hqi := hqi1 hq
        by_cases hr : k % 1000000 = 0
        · rw [hfrac, if_pos hr] at hn
          have hri := hri1 hr
          have hn2 : numText (m) = bs (decT (k / 1000000)) := by
            rw [hn]
            exact (by rw [List.append_nil])
          have H := Lib.hid hn2
          have g45 : (ByteArray.mk #[45]).size = 1 := rfl
          have g46 : (ByteArray.mk #[46]).size = 1 := rfl
          have g00 : (ByteArray.mk #[]).size = 0 := rfl
          have g4 : (⟨#[]⟩ ++ bs (decT (k / 1000000)) : ByteArray) = bs (decT (k / 1000000)) := ByteArray.empty_append
          have g1 : ¬ 9223372036854775807 < (ByteArray.mk #[]).size + (bs (decT (k / 1000000))).size := by omega
          clear hn hn2 hwh hfrac hdl hds hDl hr6 g45 g46 g00 hr hq hq0 hk0 hk htz hri0 hri1 hqi0 hqi1 h0 h
          go_enter Tryz.func226, Tryz.ntmps226
          go_wp2_with (first | (go_at_call 246; (with_reducible refine (c_isNum _ _ (by omega)).mono ?_); rintro e w' ⟨rfl, rfl⟩) | (go_at_call 247; (with_reducible refine (HF.out _ (k / 1000000) _ HQ.out HQB.out htab).mono ?_); rintro e w1 ⟨rfl, u1⟩; have htab1 := tab_up htab u1))
          go_ret
          exact ⟨by rw [H.out]; first | done | rfl, u1⟩
        · rw [hfrac, if_neg hr] at hn
          have hri := hri0 hr
          have hn2 : numText (m) = (bs (decT (k / 1000000))) ++ (⟨#[46]⟩ ++ bs (trimZ D)) := by
            rw [hn]
            exact (bs_append (decT (k / 1000000)) ([46] ++ trimZ D)).trans (by rw [bs_append]; try rfl)
          have H := Lib.hid hn2
          have g45 : (ByteArray.mk #[45]).size = 1 := rfl
          have g46 : (ByteArray.mk #[46]).size = 1 := rfl
          have g00 : (ByteArray.mk #[]).size = 0 := rfl
          have g4 : (⟨#[]⟩ ++ bs (decT (k / 1000000)) : ByteArray) = bs (decT (k / 1000000)) := ByteArray.empty_append
          have g1 : ¬ 9223372036854775807 < (ByteArray.mk #[]).size + (bs (decT (k / 1000000))).size := by omega
          have g2 : ¬ 9223372036854775807 < (ByteArray.mk #[46]).size + (bs (trimZ D)).size := by omega
          have g3 : ¬ 9223372036854775807 < (bs (decT (k / 1000000))).size + (⟨#[46]⟩ ++ bs (trimZ D) : ByteArray).size := by simp only [ByteArray.size_append, g45, g46, g00]; omega
          clear hn hn2 hwh hfrac hdl hds hDl hr6 g45 g46 g00 hr hq hq0 hk0 hk htz hri0 hri1 hqi0 hqi1 h0 h
          go_enter Tryz.func226, Tryz.ntmps226
          go_wp2_with (first | (go_at_call 246; (with_reducible refine (c_isNum _ _ (by omega)).mono ?_); rintro e w' ⟨rfl, rfl⟩) | (go_at_call 247; (with_reducible refine (HF.out _ (k / 1000000) _ HQ.out HQB.out htab).mono ?_); rintro e w1 ⟨rfl, u1⟩; have htab1 := tab_up htab u1) | (go_at_call 247; (with_reducible refine (HF.out _ M _ HE.out HMb.out htab1).mono ?_); rintro e w2 ⟨rfl, u2⟩) | (go_at_call 248; (with_reducible refine (HR.out _).mono ?_); rintro e w3 ⟨rfl, u3⟩))
          go_ret
          exact ⟨by rw [H.out]; first | done | rfl, ((u1).trans u2).trans u3⟩
set_option maxHeartbeats 4000000 in
theorem c_IsCanon (s : ByteArray) (w : World) (hs : s.size ≤ 2 ^ 62) (htab : Tab w) : Calls Tryz.prog 211 #[.string s] w (RetV (.bool (canon s)) w) := by
  have hbe := str_beq (numText (numOf s)) s
  have hcc : decide (numText (numOf s) = s) = canon s := rfl
  rw [hcc] at hbe
  have HB := Lib.hid hbe
  clear hbe hcc
  go_enter Tryz.func211, Tryz.ntmps211
  go_wp2_with fail
  refine (c_NumOf s _ hs).mono ?_
  rintro e w1 ⟨rfl, u1⟩
  go_wp2_with fail
  refine (c_NumText _ _ (numOf_abs s) (tab_up htab u1)).mono ?_
  rintro e w2 ⟨rfl, u2⟩
  go_wp2_with fail
  go_ret
  exact ⟨by rw [← HB.out]; first | done | rfl, u1.trans u2⟩
end Go.Proofs.YtfehlcbaalbajaaGreatDoor
