/-
  The reference's numbers: contracts of l01Of, l01Text, l01Canon.
-/
import Derived.Test.YtghphlfihakadaaGreatDoorBas
import Derived.Test.YtghphlfihakadaaGreatDoorRep2
import Derived.Test.YtghphlfihakadaaGreatDoorNm
import Derived.Deep.CutBlock
import Derived.Deep.DeepCutAuto
namespace Go.Proofs.YtghphlfihakadaaGreatDoor
open Go.RowKit
set_option linter.unusedVariables false
set_option linter.unusedSimpArgs false

theorem c_l00Min (a b : Int) (w : World) : Calls Tryz.prog 191 #[.int .i64 a, .int .i64 b] w fun e w' => e = .returned (.int .i64 (min a b)) ∧ w = w' := by
  by_cases h : a < b
  · go_enter Tryz.func191, Tryz.ntmps191
    go_wp2
    go_ret
    exact ⟨by rw [Int.min_eq_left (by omega)]; rfl, rfl⟩
  · go_enter Tryz.func191, Tryz.ntmps191
    go_wp2
    go_ret
    exact ⟨by rw [Int.min_eq_right (by omega)]; rfl, rfl⟩
theorem ret_int {k : IntKind} {a b : Int} (h : a = b) : Ending.returned (.int k a) = .returned (.int k b) := by rw [h]
theorem ret_int' {k : IntKind} {a b : Int} (h : a = b) : Value.int k a = .int k b := by rw [h]
theorem u8_int (c : UInt8) : 0 ≤ (c.toNat : Int) ∧ (c.toNat : Int) ≤ 255 := by have := c.toNat_lt; omega
theorem u8_nb {c d : UInt8} (z : Int) (hz : z = (d.toNat : Int)) (h : c ≠ d) : ((c.toNat : Int) == z) = false := by
  rw [beq_eq_false_iff_ne, hz]
  exact u8_ne h
theorem u8_nn {c d : UInt8} (z : Int) (hz : z = (d.toNat : Int)) (h : c ≠ d) : ¬ (c.toNat : Int) = z := by rw [hz]; exact u8_ne h
theorem u8_yb {c d : UInt8} (z : Int) (hz : z = (d.toNat : Int)) (h : c = d) : (c.toNat : Int) = z := by rw [hz, h]
theorem cap18 (v : Nat) : ∃ n0 : Nat, n0 = min (v * 1000000) 1000000000000000000 ∧ n0 ≤ 1000000000000000000 ∧ min ((v : Int) * 1000000) 1000000000000000000 = (n0 : Int) := ⟨_, rfl, by omega, by omega⟩
theorem c_l01Digit (c : UInt8) (w : World) : Calls Tryz.prog 174 #[.int .u8 (c.toNat : Int)] w fun e w' => e = .returned (.bool (isDig c)) ∧ w = w' := by
  unfold isDig
  by_cases h1 : 48 ≤ c.toNat
  · have h1' : (48 : Int) ≤ (c.toNat : Int) := by omega
    by_cases h2 : c.toNat ≤ 57
    · have h2' : (c.toNat : Int) ≤ 57 := by omega
      go_enter Tryz.func174, Tryz.ntmps174
      go_wp2
      go_ret
      exact ⟨by simp [h1, h2], rfl⟩
    · have h2' : ¬ (c.toNat : Int) ≤ 57 := by omega
      go_enter Tryz.func174, Tryz.ntmps174
      go_wp2
      go_ret
      exact ⟨by simp [h1, h2], rfl⟩
  · have h1' : ¬ (48 : Int) ≤ (c.toNat : Int) := by omega
    go_enter Tryz.func174, Tryz.ntmps174
    go_wp2
    go_ret
    exact ⟨by simp [h1], rfl⟩
set_option maxRecDepth 100000 in
set_option maxHeartbeats 4000000 in
theorem c_l01Of (s : ByteArray) (w : World) (hs : s.size ≤ maxLen) : Calls Tryz.prog 180 #[.string s] w fun e w' => e = .returned (.int .i64 (numOf s)) ∧ w = w' := by
  unfold maxLen at hs
  have hp1 := signR_le s
  have hp2 := atP_le s
  go_enter Tryz.func180, Tryz.ntmps180
  go_upto_block 0 with fail
  go_cut [3, 4] (fun i m wx => i = .int .i64 (signR s).length ∧ m = .bool (negB (signR s)) ∧ wx = w)
  case first =>
    go_wp2_with fail
    go_loop [3, 4] (fun i m => ∃ k : Nat, k ≤ (signR s).length ∧ i = .int .i64 k ∧ m = .bool (negB ((signR s).take k))) (fun i _ => s.size - (intOf i).toNat)
    case atStart => exact ⟨0, Nat.zero_le _, rfl, rfl⟩
    case round =>
      obtain ⟨k, hk, rfl, rfl⟩ := hrel
      by_cases hlt : k < (signR s).length
      · obtain ⟨h1, h2, h3⟩ := inRunL isSign s 0 hlt
        simp only [Nat.zero_add] at h1 h2 h3
        have hsn : negB ((signR s).take (k + 1)) = (if s[k] = 45 then !negB ((signR s).take k) else negB ((signR s).take k)) := by
          rw [List.take_succ_eq_append_getElem hlt, negB_snoc]
          have : (signR s)[k] = s[k] := h3
          rw [this]
        rcases isSign_cases h2 with hc | hc
        · have hc' := u8_eq hc
          have hc2 : ((43 : UInt8).toNat : Int) = 43 := rfl
          rw [hc2] at hc'
          rw [hc, if_neg (by decide)] at hsn
          have H := Lib.hid hsn
          clear hsn h3 hc h2
          go_wp2
          go_round
          case rel => exact ⟨k + 1, by omega, by go_num, by rw [H.out]⟩
          case measure => simp [intOf]; omega
        · have hc' := u8_eq hc
          have hc2 : ((45 : UInt8).toNat : Int) = 45 := rfl
          rw [hc2] at hc'
          rw [hc, if_pos rfl] at hsn
          have H := Lib.hid hsn
          clear hsn h3 hc h2
          go_wp2
          go_round
          case rel => exact ⟨k + 1, by omega, by go_num, by rw [H.out]⟩
          case measure => simp [intOf]; omega
      · obtain rfl : k = (signR s).length := by omega
        have ht : (signR s).take (signR s).length = signR s := List.take_length
        have H := Lib.hid ht
        clear ht
        by_cases he : (signR s).length < s.size
        · have hc : s[(signR s).length] ≠ 43 ∧ s[(signR s).length] ≠ 45 := isSign_not (by have := run_end isSign s 0 (by rw [Nat.zero_add]; exact he); simp only [Nat.zero_add] at this; exact this)
          have h43 := u8_nb 43 rfl hc.1
          have h45 := u8_nb 45 rfl hc.2
          clear hc
          go_wp2_with fail
          go_meet
          exact ⟨rfl, rfl, rfl⟩
        · go_wp2
          go_meet
          exact ⟨rfl, rfl, rfl⟩
  case rest =>
    obtain ⟨rfl, rfl, rfl⟩ := hcut
    go_upto_block 2 with fail
    go_cut [3, 5] (fun i n wx => i = .int .i64 (atP s) ∧ n = .int .i64 ((min (valD (wholeR s)) 1000000000000 : Nat) : Int) ∧ wx = wc)
    case first =>
      go_wp2_with fail
      go_loop [3, 5] (fun i n => ∃ k : Nat, k ≤ (wholeR s).length ∧ i = .int .i64 ((signR s).length + k : Nat) ∧ n = .int .i64 ((min (valD ((wholeR s).take k)) 1000000000000 : Nat) : Int)) (fun i _ => s.size - (intOf i).toNat)
      case atStart => exact ⟨0, Nat.zero_le _, rfl, by simp [valD]⟩
      case round =>
        obtain ⟨k, hk, rfl, rfl⟩ := hrel
        have hm : min (valD ((wholeR s).take k)) 1000000000000 ≤ 1000000000000 := Nat.min_le_right _ _
        by_cases hlt : k < (wholeR s).length
        · obtain ⟨h1, h2, h3⟩ := inRunL isDig s (signR s).length hlt
          have h3' : (wholeR s)[k] = s[(signR s).length + k] := h3
          have hsn := valD_take_succ (wholeR s) hlt
          rw [h3'] at hsn
          have hd := isDig_bd h2
          have hdv : dval s[(signR s).length + k] = s[(signR s).length + k].toNat - 48 := rfl
          have hmin : ((min (valD ((wholeR s).take (k + 1))) 1000000000000 : Nat) : Int) = min (10 * ((min (valD ((wholeR s).take k)) 1000000000000 : Nat) : Int) + ((s[(signR s).length + k].toNat : Int) - 48)) 1000000000000 := by
            rw [hsn]; omega
          have H := Lib.hid hmin
          have hd1 : (48 : Int) ≤ s[(signR s).length + k].toNat := by omega
          have hd2 : (s[(signR s).length + k].toNat : Int) ≤ 57 := by omega
          clear hmin hsn h3' h3 hdv hd
          generalize min (valD ((wholeR s).take k)) 1000000000000 = v at hm H ⊢
          go_wp2_with (first | (go_at_call 174; refine (c_l01Digit _ _).mono ?_; rintro e w' ⟨rfl, rfl⟩; rw [h2]) | (go_at_call 191; refine (c_l00Min _ _ _).mono ?_; rintro e w' ⟨rfl, rfl⟩))
          go_round
          case rel => exact ⟨k + 1, by omega, by congr 1, by rw [H.out]⟩
          case measure => simp [intOf]; omega
        · obtain rfl : k = (wholeR s).length := by omega
          have ht : (wholeR s).take (wholeR s).length = wholeR s := List.take_length
          have hat : atP s = (signR s).length + (wholeR s).length := rfl
          by_cases he : (signR s).length + (wholeR s).length < s.size
          · have hc := run_end isDig s (signR s).length he
            have hc' : isDig s[(signR s).length + (wholeR s).length] = false := hc
            clear hc
            go_wp2_with (go_at_call 174; refine (c_l01Digit _ _).mono ?_; rintro e w' ⟨rfl, rfl⟩; rw [hc'])
            go_meet
            exact ⟨rfl, rfl, rfl⟩
          · go_wp2_with fail
            go_meet
            exact ⟨rfl, rfl, rfl⟩
    case rest =>
      obtain ⟨rfl, rfl, rfl⟩ := hcut
      generalize hv : min (valD (wholeR s)) 1000000000000 = v
      have hvle : v ≤ 1000000000000 := by rw [← hv]; exact Nat.min_le_right _ _
      have HV := Lib.hid hv
      clear hv
      have hmul : IntKind.i64.wrap ((v : Int) * 1000000) = (v : Int) * 1000000 := IntWalk.i64_in _ (by omega)
      have hat := atP_le s
      have hab := absL_spec s.data.toList
      rw [← wholeR_eq, HV.out] at hab
      have hble : fracSum (fracL s.data.toList) 100000 ≤ 1000000 := fracL_sum_le _ _
      have hnum : numOf s = if negB (signR s) = true then -((min (min (v * 1000000) 1000000000000000000 + fracSum (fracL s.data.toList) 100000) 999999999999999999 : Nat) : Int) else ((min (min (v * 1000000) 1000000000000000000 + fracSum (fracL s.data.toList) 100000) 999999999999999999 : Nat) : Int) := by
        unfold numOf
        rw [negL_eq, hab]
      obtain ⟨n0, hn0, hm18, hmm⟩ := cap18 v
      rw [← hn0] at hnum
      have HM := Lib.hid hmm
      clear hmm hab hn0
      generalize negB (signR s) = ng at hnum ⊢
      by_cases he : atP s < s.size
      · by_cases h46 : s[atP s] = 46
        · have e46 := u8_yb 46 rfl h46
          rw [fracL_yes he h46] at hnum hble
          clear h46
          have hrl := run_le isDig s (atP s + 1) he
          go_wp2_with (go_at_call 191; refine (c_l00Min _ _ _).mono ?_; rintro e w' ⟨rfl, rfl⟩; try rw [HM.out])
          have HI := Lib.hid (fun (k : Nat) (h : k < (runL isDig s (atP s + 1)).length) => inRunL isDig s (atP s + 1) h)
          have HE := Lib.hid (run_end isDig s (atP s + 1))
          have HB := Lib.hid (fun (k : Nat) => fracSum_le ((runL isDig s (atP s + 1)).take k) 100000 (fun c hc => tw_dval _ c (List.mem_of_mem_take hc)))
          generalize runL isDig s (atP s + 1) = F at *
          have HN := Lib.hid hnum
          clear hnum
          go_loop [3, 5, 6] (fun i n u => ∃ k : Nat, k ≤ F.length ∧ i = .int .i64 (atP s + 1 + k : Nat) ∧ n = .int .i64 (n0 + fracSum (F.take k) 100000 : Nat) ∧ u = .int .i64 (100000 / 10 ^ k : Nat)) (fun i _ _ => s.size - (intOf i).toNat)
          case atStart => exact ⟨0, Nat.zero_le _, rfl, rfl, rfl⟩
          case round =>
            obtain ⟨k, hk, rfl, rfl, rfl⟩ := hrel
            have hfk := HB.out k
            by_cases hlt : k < F.length
            · obtain ⟨h1, h2, h3⟩ := HI.out k hlt
              have hsn := fracSum_take_succ F 100000 hlt
              rw [h3] at hsn
              have hd := isDig_bd h2
              have hdv : dval s[atP s + 1 + k] = s[atP s + 1 + k].toNat - 48 := rfl
              have hu1 : 100000 / 10 ^ (k + 1) = 100000 / 10 ^ k / 10 := by rw [Nat.pow_succ, Nat.div_div_eq_div_mul]
              have hu2 : 100000 / 10 ^ k ≤ 100000 := Nat.div_le_self _ _
              have hd1 : (48 : Int) ≤ s[atP s + 1 + k].toNat := by omega
              have hd2 : (s[atP s + 1 + k].toNat : Int) ≤ 57 := by omega
              rw [hdv] at hsn
              have HS := Lib.hid hsn
              have HU := Lib.hid hu1
              clear hsn hu1 h3 hdv hd
              generalize hgu : 100000 / 10 ^ k = u at *
              have hp0 : (s[atP s + 1 + k].toNat - 48) * u ≤ 9 * 100000 := Nat.mul_le_mul (by omega) hu2
              have hpe : ((s[atP s + 1 + k].toNat : Int) - 48) * (u : Int) = (((s[atP s + 1 + k].toNat - 48) * u : Nat) : Int) := by
                rw [Int.natCast_mul]; congr 1; omega
              have hq0 : 0 ≤ ((s[atP s + 1 + k].toNat : Int) - 48) * (u : Int) := by omega
              have hq1 : ((s[atP s + 1 + k].toNat : Int) - 48) * (u : Int) ≤ 900000 := by omega
              have HP := Lib.hid hpe
              have HG := Lib.hid hgu
              clear hpe hgu
              go_wp2_with (go_at_call 174; refine (c_l01Digit _ _).mono ?_; rintro e w' ⟨rfl, rfl⟩; rw [h2])
              go_round
              case rel => exact ⟨k + 1, by omega, by congr 1, ret_int' (by rw [HS.out]; have := HP.out; omega), by rw [HU.out]; rfl⟩
              case measure => simp [intOf]; omega
            · obtain rfl : k = F.length := by omega
              have ht : F.take F.length = F := List.take_length
              rw [ht] at hfk
              have hneg : IntKind.i64.wrap (-(min ((n0 : Int) + (fracSum F 100000 : Nat)) 999999999999999999)) = -(min ((n0 : Int) + (fracSum F 100000 : Nat)) 999999999999999999) := IntWalk.i64_in _ (by omega)
              by_cases he2 : atP s + 1 + F.length < s.size
              · have h2 := HE.out he2
                cases ng
                all_goals
                  go_wp2_with (first | (go_at_call 174; refine (c_l01Digit _ _).mono ?_; rintro e w' ⟨rfl, rfl⟩; rw [h2]) | (go_at_call 191; refine (c_l00Min _ _ _).mono ?_; rintro e w' ⟨rfl, rfl⟩))
                  go_ret
                  exact ⟨ret_int (by rw [HN.out]; simp only [if_true, Bool.false_eq_true, if_false]; omega), rfl⟩
              · cases ng
                all_goals
                  go_wp2_with (go_at_call 191; refine (c_l00Min _ _ _).mono ?_; rintro e w' ⟨rfl, rfl⟩)
                  go_ret
                  exact ⟨ret_int (by rw [HN.out]; simp only [if_true, Bool.false_eq_true, if_false]; omega), rfl⟩
        · have n46 := u8_nn 46 rfl h46
          rw [fracL_no he h46] at hnum
          have HN := Lib.hid hnum
          clear hnum h46
          have hneg : IntKind.i64.wrap (-(min (n0 : Int) 999999999999999999)) = -(min (n0 : Int) 999999999999999999) := IntWalk.i64_in _ (by omega)
          cases ng
          all_goals
            go_wp2_with (go_at_call 191; refine (c_l00Min _ _ _).mono ?_; rintro e w' ⟨rfl, rfl⟩; try rw [HM.out])
            go_ret
            exact ⟨ret_int (by rw [HN.out]; simp only [if_true, Bool.false_eq_true, if_false, fracSum]; omega), rfl⟩
      · have hfr : fracSum (fracL s.data.toList) 100000 = 0 := by rw [fracL_end he]; rfl
        rw [hfr] at hnum
        clear hfr hble
        have HN := Lib.hid hnum
        clear hnum
        have hneg : IntKind.i64.wrap (-(min (n0 : Int) 999999999999999999)) = -(min (n0 : Int) 999999999999999999) := IntWalk.i64_in _ (by omega)
        cases ng
        all_goals
          go_wp2_with (go_at_call 191; refine (c_l00Min _ _ _).mono ?_; rintro e w' ⟨rfl, rfl⟩; try rw [HM.out])
          go_ret
          exact ⟨ret_int (by rw [HN.out]; simp only [if_true, Bool.false_eq_true, if_false]; omega), rfl⟩
end Go.Proofs.YtghphlfihakadaaGreatDoor
