/-
  The reference's texts of numbers: contracts of l01Whole, l01Text, l01Canon.
-/
import Derived.Test.YtfehlcbaalbajaaGreatDoorNw
import Derived.Lib.ConvBytes
import Derived.Lib.SlBytesRow
import Derived.Deep.RegionHeld3
namespace Go.Proofs.YtfehlcbaalbajaaGreatDoor
open Go.RowKit
set_option linter.unusedVariables false
set_option linter.unusedSimpArgs false

def bs (l : List UInt8) : ByteArray := ⟨l.toArray⟩
theorem bs_size (l : List UInt8) : (bs l).size = l.length := by show l.toArray.size = _; simp
theorem bs_toList (l : List UInt8) : (bs l).data.toList = l := by show l.toArray.toList = l; simp
theorem bs_append (a b : List UInt8) : bs (a ++ b) = bs a ++ bs b := by
  apply ByteArray.ext
  simp [bs, ByteArray.data_append]
theorem bs_eta (s : ByteArray) : bs s.data.toList = s := by
  apply ByteArray.ext
  simp [bs]
theorem bs_inj {a b : List UInt8} : bs a = bs b ↔ a = b := ⟨fun h => by have := congrArg (fun s : ByteArray => s.data.toList) h; simpa [bs_toList] using this, fun h => by rw [h]⟩
theorem numText_bs (n : Int) : numText n = bs (textL n) := rfl
/-- One byte, made as a slice and turned into a string. -/
theorem conv_at (d : Int) (c : UInt8) (hd : d = (c.toNat : Int)) (W : World) (b : Nat) (hb : Bk W b 5 #[.int .u8 d]) : (convert 132 9 (.slice (some ⟨b, 0, none⟩) 1 1)).run Tryz.prog W = .ok (.string (bs [c])) W := by
  subst hd
  have hb : Lib.Bytes W b 0 (bs [c]) := fun i hi => by
    obtain rfl : i = 0 := by have : i < 1 := hi; omega
    exact hb.cell 0
  exact Lib.run_convert_whole (P := Tryz.prog) _ 132 5 9 Tryz.underlying132 Tryz.underlying5 Tryz.underlying9 _ _ _ hb 1
set_option maxRecDepth 100000 in
set_option maxHeartbeats 4000000 in
theorem c_l01Whole (k : Nat) : ∀ (w : World), k ≤ 9223372036854775807 → Calls Tryz.prog 257 #[.int .i64 (k : Int)] w (RetV (.string (bs (wholeT k))) w) := by
  induction k using Nat.strongRecOn with
  | _ k ih =>
    intro w hk
    by_cases h0 : k = 0
    · subst h0
      clear ih
      go_enter Tryz.func257, Tryz.ntmps257
      go_wp2
      go_ret
      exact ⟨rfl, Up.refl w⟩
    · have hst : bs (wholeT k) = bs (wholeT (k / 10)) ++ bs [UInt8.ofNat (48 + k % 10)] := by rw [wholeT_step (by omega), bs_append]
      have H := Lib.hid hst
      have hr : Int.tmod (k : Int) 10 = ((k % 10 : Nat) : Int) := by norm_cast
      have hq : Int.tdiv (k : Int) 10 = ((k / 10 : Nat) : Int) := by norm_cast
      have hk0 : ¬ (k : Int) = 0 := by omega
      have ih1 : ∀ (q : Int) (w : World), q = ((k / 10 : Nat) : Int) → Calls Tryz.prog 257 #[.int .i64 q] w (RetV (.string (bs (wholeT (k / 10)))) w) := fun q w hq => by
        subst hq
        exact ih (k / 10) (by omega) w (by omega)
      have hs : (wholeT (k / 10)).length ≤ 20 := by
        unfold wholeT
        split
        · simp
        · exact decT_length _ (by omega)
      have hs1 := bs_size (wholeT (k / 10))
      have hs2 : ¬ 9223372036854775807 < (bs (wholeT (k / 10))).size + (bs [UInt8.ofNat (48 + k % 10)]).size := by rw [bs_size, bs_size]; simp; omega
      clear ih hst h0 hs1 hs
      obtain ⟨c, hcc⟩ : ∃ c, c = UInt8.ofNat (48 + k % 10) := ⟨_, rfl⟩
      rw [← hcc] at H hs2
      have hdd : (48 : Int) + (k : Int) % 10 = (c.toNat : Int) := by
        rw [hcc, UInt8.toNat_ofNat']; omega
      clear hcc
      have HD := Lib.hid hdd
      clear hdd
      have hcv : ∀ W : World, (convert 132 9 (.slice (some ⟨W.heap.size, 0, none⟩) 1 1)).run Tryz.prog (W.alloc (.cells #[.int .u8 (48 + (k : Int) % 10)] 5)) = .ok (.string (bs [c])) (W.alloc (.cells #[.int .u8 (48 + (k : Int) % 10)] 5)) :=
        fun W => conv_at _ _ HD.out _ _ (Bk.new _ _ _)
      have hcv2 : (convert 132 9 (.slice (some ⟨w.heap.size, 0, none⟩) 1 1)).run Tryz.prog (w.alloc (.cells #[.int .u8 (48 + (k : Int) % 10)] 5)).drew = .ok (.string (bs [c])) (w.alloc (.cells #[.int .u8 (48 + (k : Int) % 10)] 5)).drew :=
        conv_at _ _ HD.out _ _ (Bk.drew (Bk.new _ _ _))
      have hw1 : IntKind.i64.wrap ((k : Int) / 10) = (k : Int) / 10 := IntWalk.i64_in _ (by omega)
      have hw2 : IntKind.i64.wrap ((48 : Int) + (k : Int) % 10) = (48 : Int) + (k : Int) % 10 := IntWalk.i64_in _ (by omega)
      have hw3 : IntKind.u8.wrap ((48 : Int) + (k : Int) % 10) = (48 : Int) + (k : Int) % 10 := by simp [IntKind.wrap, IntKind.bits, IntKind.signed]; omega
      go_enter Tryz.func257, Tryz.ntmps257
      go_wp2_with fail
      go_region_with (go_at_call 257; refine (ih1 _ _ (by omega)).mono ?_; rintro e w1 ⟨rfl, u⟩; first | (have hbx := Bk.up (Bk.drew (Bk.new w 5 #[.int .u8 (48 + (k : Int) % 10)])) (by with_reducible exact u); have hcx := conv_at _ _ HD.out w1 _ hbx) | skip)
      all_goals go_wp2_with fail
      all_goals go_ret
      all_goals exact ⟨by rw [H.out]; first | done | rfl, by repeat (first | exact Up.refl _ | refine Up.trans ?_ u | refine Up.alloc ?_ _ | refine Up.drew ?_)⟩
/-- Where the noughts at the end of a list of digits begin. -/
def zAt (D : List UInt8) : Nat := D.length - (D.reverse.takeWhile (· == 48)).length
theorem zAt_le (D : List UInt8) : zAt D ≤ D.length := Nat.sub_le _ _
theorem trimZ_take (D : List UInt8) : trimZ D = D.take (zAt D) := by
  unfold trimZ Lib.trimRightB zAt
  rw [← dw_drop, List.drop_reverse, List.reverse_reverse]
theorem zAt_in {D : List UInt8} {i : Nat} (h : zAt D ≤ i) (hi : i < D.length) : D[i] = 48 := by
  unfold zAt at h
  have h1 : D.length - 1 - i < (D.reverse.takeWhile (· == 48)).length := by omega
  obtain ⟨h2, h3⟩ := tw_all (· == 48) D.reverse _ h1
  rw [List.getElem_reverse] at h3
  have e : D.length - 1 - (D.length - 1 - i) = i := by omega
  simp only [e] at h3
  simpa using h3
theorem zAt_stop {D : List UInt8} (h : 0 < zAt D) : D[zAt D - 1]'(by have := zAt_le D; omega) ≠ 48 := by
  have hle := zAt_le D
  have h1 : (D.reverse.takeWhile (· == 48)).length < D.reverse.length := by unfold zAt at h; simp; omega
  have h2 := tw_stop (· == 48) D.reverse h1
  rw [List.getElem_reverse] at h2
  have e : D.length - 1 - (D.reverse.takeWhile (· == 48)).length = zAt D - 1 := by unfold zAt; omega
  simp only [e] at h2
  simpa using h2
theorem bs_get (l : List UInt8) (i : Nat) (h : i < (bs l).size) : (bs l)[i] = l[i]'(by rw [bs_size] at h; exact h) := by
  exact List.getElem_toArray _
def strSz : Value → Nat
  | .string F => F.size
  | _ => 0
theorem bs_ne {l : List UInt8} (h : l ≠ []) : (bs l).toList.isEmpty = false := by
  rw [ByteArray.toList_eq, bs_toList]
  simpa using h
theorem bs_extract (l : List UInt8) (a b : Nat) : (bs l).extract a b = bs ((l.take b).drop a) := by
  apply ba_ext
  rw [bs_toList]
  simp [bs, List.extract_eq_take_drop, List.drop_take]
set_option maxRecDepth 100000 in
set_option maxHeartbeats 4000000 in
theorem c_l01Text_pos (k : Nat) (w : World) (hk : k ≤ 999999999999999999) (h0 : 0 < k) : Calls Tryz.prog 234 #[.int .i64 (k : Int)] w (RetV (.string (bs (posT k))) w) := by
  have cw : ∀ (q : Int) (m : Nat) (w : World), q = (m : Int) → m ≤ 9223372036854775807 → Calls Tryz.prog 257 #[.int .i64 q] w (RetV (.string (bs (wholeT m))) w) := fun q m w hq hm => by
    subst hq
    exact c_l01Whole m w hm
  have hpne := posT_ne h0
  have hlw := wholeT_len (k := k / 1000000) (by omega)
  by_cases hz : k % 1000000 = 0
  · have hp : posT k = wholeT (k / 1000000) := by unfold posT fracT; rw [if_pos hz, List.append_nil]
    rw [hp] at hpne ⊢
    have hzi : (k : Int) % 1000000 = 0 := by omega
    have hem := bs_ne hpne
    clear hp hpne
    go_enter Tryz.func234, Tryz.ntmps234
    go_wp2_with (go_at_call 257; refine (cw _ (k / 1000000) _ (by omega) (by omega)).mono ?_; rintro e w1 ⟨rfl, u⟩)
    go_ret
    exact ⟨rfl, u⟩
  · have hr6 : k % 1000000 < 1000000 := by omega
    obtain ⟨r, hr⟩ : ∃ r, r = k % 1000000 := ⟨_, rfl⟩
    rw [← hr] at hz hr6
    have hD := decT_million hr6
    have hDl : (decT (1000000 + r)).length = 7 := by rw [hD]; rfl
    have hwT : wholeT (1000000 + r) = decT (1000000 + r) := if_neg (by omega)
    obtain ⟨D, hDD⟩ : ∃ D, D = (decT (1000000 + r)).drop 1 := ⟨_, rfl⟩
    have hD6 : D.length = 6 := by rw [hDD, List.length_drop, hDl]
    have hp : bs (posT k) = bs (wholeT (k / 1000000)) ++ (⟨#[46]⟩ ++ bs (D.take (zAt D))) := by
      unfold posT fracT
      rw [← hr, if_neg hz, ← hDD, trimZ_take, bs_append]
      exact congrArg _ (bs_append [46] _)
    have hzp : 0 < zAt D := by
      rcases Nat.eq_zero_or_pos (zAt D) with h | h
      · have := fracT_ne hr6 (by omega)
        rw [← hDD, trimZ_take, h] at this
        exact absurd rfl this
      · exact h
    have hzl := zAt_le D
    have hri : (k : Int) % 1000000 = (r : Int) := by omega
    have hext : (bs (wholeT (1000000 + r))).extract 1 (bs (wholeT (1000000 + r))).size = bs D := by
      rw [bs_extract, bs_size, List.take_length, hwT, hDD]
    have hs7 : (bs (wholeT (1000000 + r))).size = 7 := by rw [bs_size, hwT, hDl]
    rw [hs7] at hext
    have HP := Lib.hid hp
    have HS := Lib.hid (fun (i : Nat) => @zAt_in D i)
    have HT := Lib.hid (zAt_stop hzp)
    clear hp hpne hwT hDD hDl hD hr
    go_enter Tryz.func234, Tryz.ntmps234
    go_wp2_with (first | (go_at_call 257; (with_reducible refine (cw _ (k / 1000000) _ (by omega) (by omega)).mono ?_); rintro e w1 ⟨rfl, u⟩) | (go_at_call 257; (with_reducible refine (cw _ (1000000 + r) _ (by omega) (by omega)).mono ?_); rintro e w2 ⟨rfl, u2⟩))
    have uu := u.trans u2
    clear u u2
    go_loop [5] (fun f => ∃ (j : Nat) (F : ByteArray), f = .string F ∧ Hid (F = bs (D.take j)) ∧ zAt D ≤ j ∧ j ≤ 6) (fun f => strSz f)
    case atStart => exact ⟨6, bs D, rfl, by unfold Hid; rw [List.take_of_length_le (by omega)], by omega, by omega⟩
    case round =>
      obtain ⟨j, F, rfl, HF, hj1, hj2⟩ := hrel
      obtain ⟨i, rfl⟩ : ∃ i, j = i + 1 := ⟨j - 1, by omega⟩
      have hsz : F.size = i + 1 := by rw [HF.out, bs_size, List.length_take]; omega
      have hget : F[i] = D[i] := by
        have : F[i] = (bs (D.take (i + 1)))[i]'(by rw [← HF.out]; omega) := by congr 1
        rw [this, bs_get, List.getElem_take]
      have hex : F.extract 0 i = bs (D.take i) := by rw [HF.out, bs_extract, List.drop_zero, List.take_take, Nat.min_eq_left (by omega)]
      by_cases hlt : zAt D ≤ i
      · have h48 : (F[i].toNat : Int) = 48 := by rw [hget, HS.out i hlt (by omega)]; rfl
        have HX := Lib.hid hex
        clear hget hex
        go_wp2
        go_round
        case rel => exact ⟨i, _, rfl, HX, hlt, by omega⟩
        case measure =>
          show (F.extract 0 i).size < F.size
          rw [HX.out, bs_size, List.length_take]
          omega
      · have hii : zAt D = i + 1 := by omega
        have hne : F[i] ≠ 48 := by
          rw [hget]
          have := HT.out
          simp only [hii, Nat.add_sub_cancel] at this
          exact this
        have n48 := u8_nn 48 rfl hne
        have hsw := bs_size (wholeT (k / 1000000))
        have h46 : (ByteArray.mk #[46]).size = 1 := rfl
        have hsa : (⟨#[46]⟩ ++ F : ByteArray).size = 1 + (i + 1) := by rw [ByteArray.size_append, hsz, h46]
        have hg1 : ¬ 9223372036854775807 < (ByteArray.mk #[46]).size + F.size := by omega
        have hg2 : ¬ 9223372036854775807 < (bs (wholeT (k / 1000000))).size + (⟨#[46]⟩ ++ F : ByteArray).size := by omega
        have hpp := HP.out
        rw [hii, ← HF.out] at hpp
        have hem : (bs (wholeT (k / 1000000)) ++ (⟨#[46]⟩ ++ F)).toList.isEmpty = false := by
          rw [← hpp]
          exact bs_ne (posT_ne h0)
        have HQ := Lib.hid hpp
        clear hpp hne hget hex hsa hsw h46
        go_wp2
        go_ret
        exact ⟨by rw [HQ.out]; first | done | rfl, uu⟩
set_option maxRecDepth 100000 in
set_option maxHeartbeats 4000000 in
theorem c_l01Text (n : Int) (w : World) (hn : n.natAbs ≤ 999999999999999999) : Calls Tryz.prog 234 #[.int .i64 n] w (RetV (.string (numText n)) w) := by
  by_cases h0 : n = 0
  · subst h0
    have cw : ∀ (q : Int) (w : World), q = 0 → Calls Tryz.prog 257 #[.int .i64 q] w (RetV (.string ⟨#[]⟩) w) := fun q w hq => by
      subst hq
      exact c_l01Whole 0 w (by omega)
    go_enter Tryz.func234, Tryz.ntmps234
    go_wp2_with (go_at_call 257; refine (cw _ _ (by omega)).mono ?_; rintro e w1 ⟨rfl, u⟩)
    go_ret
    exact ⟨rfl, u⟩
  · by_cases hp : 0 < n
    · obtain ⟨k, rfl⟩ : ∃ k : Nat, n = (k : Int) := ⟨n.toNat, by omega⟩
      have e : numText (k : Int) = bs (posT k) := by
        unfold numText textL
        rw [if_neg (by omega), if_neg (by omega), Int.natAbs_natCast]
        rfl
      rw [e]
      exact c_l01Text_pos k w (by omega) (by omega)
    · obtain ⟨k, rfl⟩ : ∃ k : Nat, n = -(k : Int) := ⟨n.natAbs, by omega⟩
      have hk : 0 < k := by omega
      have hk2 : k ≤ 999999999999999999 := by omega
      have e : numText (-(k : Int)) = ⟨#[45]⟩ ++ bs (posT k) := by
        unfold numText textL
        rw [if_neg (by omega), if_pos (by omega), Int.natAbs_neg, Int.natAbs_natCast]
        exact bs_append [45] _
      have cp : ∀ (q : Int) (w : World), q = (k : Int) → Calls Tryz.prog 234 #[.int .i64 q] w (RetV (.string (bs (posT k))) w) := fun q w hq => by
        subst hq
        exact c_l01Text_pos k w hk2 hk
      have hl := posT_len (k := k) hk2
      have hs := bs_size (posT k)
      have h45 : (ByteArray.mk #[45]).size = 1 := rfl
      have hg : ¬ 9223372036854775807 < (ByteArray.mk #[45]).size + (bs (posT k)).size := by omega
      have hlt : -(k : Int) < 0 := by omega
      have E := Lib.hid e
      clear e hs h45 hl
      go_enter Tryz.func234, Tryz.ntmps234
      go_wp2_with (go_at_call 234; refine (cp _ _ (by first | omega | simp)).mono ?_; rintro e w1 ⟨rfl, u⟩)
      go_ret
      exact ⟨by rw [E.out]; first | done | rfl, u⟩
theorem str_ne_nil {s : ByteArray} (h : 1 ≤ s.size) : s.toList.isEmpty = false := by
  have : s.toList ≠ [] := fun e => by
    have : s.data.toList = [] := by rw [← ByteArray.toList_eq]; exact e
    have h2 : s.data.toList.length = s.size := Array.length_toList
    rw [this] at h2
    simp at h2
    omega
  simpa using this
theorem canon_iff (s : ByteArray) : (numText (numOf s) = s) ↔ canon s = true := by simp [canon]
set_option maxRecDepth 100000 in
set_option maxHeartbeats 4000000 in
theorem c_l01Canon (s : ByteArray) (w : World) (hs : s.size ≤ maxLen) : Calls Tryz.prog 222 #[.string s] w (RetV (.bool (canon s)) w) := by
  have hm := hs
  unfold maxLen at hm
  by_cases h1 : 1 ≤ s.size
  · by_cases h2 : s.size ≤ 21
    · have hne := str_ne_nil h1
      have hna := numOf_abs s
      have hbe := str_beq (numText (numOf s)) s
      have hcc : decide (numText (numOf s) = s) = canon s := rfl
      rw [hcc] at hbe
      have HB := Lib.hid hbe
      clear hbe hcc
      go_enter Tryz.func222, Tryz.ntmps222
      go_wp2_with (first | (go_at_call 223; refine (c_l01Of _ _ hs).mono ?_; rintro e w1 ⟨rfl, rfl⟩) | (go_at_call 234; refine (c_l01Text _ _ hna).mono ?_; rintro e w1 ⟨rfl, u⟩))
      go_ret
      exact ⟨by rw [← HB.out]; first | done | rfl, u⟩
    · have hne := str_ne_nil h1
      have hc : canon s = false := by
        cases h : canon s
        · rfl
        · have := canon_size h; omega
      have HB := Lib.hid hc
      clear hc
      go_enter Tryz.func222, Tryz.ntmps222
      go_wp2_with fail
      go_ret
      exact ⟨by rw [HB.out]; first | done | rfl, Up.refl w⟩
  · have hc : canon s = false := by
      cases h : canon s
      · rfl
      · have := canon_size h; omega
    have h0 : s.toList = [] := by
      rw [ByteArray.toList_eq]
      exact List.eq_nil_of_length_eq_zero (by rw [slen]; omega)
    have HB := Lib.hid hc
    clear hc
    go_enter Tryz.func222, Tryz.ntmps222
    go_wp2_with fail
    go_ret
    exact ⟨by rw [HB.out]; first | done | rfl, Up.refl w⟩
end Go.Proofs.YtfehlcbaalbajaaGreatDoor
