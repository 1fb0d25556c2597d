/-
  The program's putSub: one subscript's key written to a strings.Builder.
-/
import Derived.Test.YtfehlcbaalbajaaGreatDoorBl2
import Derived.Test.YtfehlcbaalbajaaGreatDoorPe
import Derived.Test.YtfehlcbaalbajaaGreatDoorHs
import Derived.Test.YtfehlcbaalbajaaGreatDoorNk
namespace Go.Proofs.YtfehlcbaalbajaaGreatDoor
open Go.RowKit
set_option linter.unusedVariables false
set_option linter.unusedSimpArgs false

theorem toL (a : Array UInt8) : (ByteArray.mk a).data.toList = a.toList := rfl
theorem c_Replace0 (s : ByteArray) (w : World) (hs : s.size ≤ 1048576) (hm : MaxL w) :
    Calls Tryz.prog 272 #[.string s, .string (ByteArray.mk #[0]), .string (ByteArray.mk #[0, 255])] w fun e w' => e = .returned (.string (bs (escL s.data.toList))) ∧ Up w w' := by
  obtain ⟨m, hm⟩ := hm
  have hc : Lib.countB s (ByteArray.mk #[0]) ≤ s.size := Lib.countB_le _ (by decide) s.size s (Nat.le_refl _)
  refine (Tryz.strings_ReplaceAll s (ByteArray.mk #[0]) (ByteArray.mk #[0, 255]) m w (by omega) hm (by decide) ?_).mono ?_
  · have h2 : (ByteArray.mk #[0, 255]).size = 2 := by decide
    rw [h2]; omega
  · rintro e w' ⟨rfl, hb⟩
    refine ⟨?_, hb⟩
    rw [toL, toL]
    have := replaceAll_esc s.data.toList
    rw [show (#[0] : Array UInt8).toList = [0] from rfl, show (#[0, 255] : Array UInt8).toList = [0, 255] from rfl, this]
    rfl
theorem Up.ok {w w' : World} (u : Up w w') (b : Nat) : Lib.OthersKept 5 (some b) w w' := fun g o h _ _ => (u.block g (heap_lt h)).trans h
theorem maxL_below {B : Nat} {w w' : World} (h : MaxL w) (k : Below B w w') (hB : 0 < B) : MaxL w' := by
  obtain ⟨m, hm⟩ := h
  exact ⟨m, (k.cell hB).trans hm⟩
/-- A builder's step: the row grows, what lies below B stays, and of the rest only bytes change. -/
abbrev Stp (B b : Nat) (l : List UInt8) (w w' : World) : Prop := Bld8 B b l w' ∧ Below B w w' ∧ Lib.OthersKept 5 (some b) w w'
set_option maxRecDepth 100000 in
set_option maxHeartbeats 8000000 in
theorem c_putSub2 (B b : Nat) (l : List UInt8) (s : ByteArray) (w : World) (h : Bld8 B b l w) (hs : s.size ≤ 1048576) (hl : l.length ≤ 1099511627776) (hBw : B ≤ w.heap.size) (hB0 : 0 < B) (htab : Tab w) (hm : MaxL w) (hc : canon s = false) :
    Calls Tryz.prog 260 #[.pointer (some ⟨b, 0, none⟩), .string s] w fun e w' => e = .returned (.tuple #[]) ∧ Stp B b (l ++ subKeyL s) w w' := by
  have hk : subKeyL s = 2 :: (escL s.data.toList ++ [0, 0]) := by unfold subKeyL; rw [if_neg (by rw [hc]; simp)]
  have hsz : s.size ≤ 2 ^ 62 := by omega
  have hel := escL_len s.data.toList
  rw [slen] at hel
  have HK := Lib.hid hk
  clear hk
  go_enter Tryz.func260, Tryz.ntmps260
  go_wp2_with fail
  refine (c_IsCanon s _ hsz htab).mono ?_
  rintro e w1 ⟨rfl, u1⟩
  rw [hc]
  have b1 := bld_up h u1
  have k1 : Below B w w1 := Below.mono u1 hBw
  have o1 := u1.ok b
  have m1 := maxL_up hm u1
  have s1 := u1.size
  go_wp2_with fail
  refine (c_WriteByte B b l 2 w1 b1 (by omega) (by omega)).mono ?_
  rintro e w2 ⟨rfl, b2, k2, o2⟩
  have m2 := maxL_below m1 k2 hB0
  have s2 := k2.size
  have kk2 := k1.trans k2
  have oo2 := o1.trans o2
  go_wp2_with fail
  refine (c_Replace0 s w2 hs m2).mono ?_
  rintro e w3 ⟨rfl, u3⟩
  have b3 := bld_up b2 u3
  have k3 := kk2.trans (Below.mono u3 (by omega))
  have o3 := oo2.trans (u3.ok b)
  have s3 := u3.size
  have hbz : (bs (escL s.data.toList)).size = (escL s.data.toList).length := bs_size _
  have hl3 : (l ++ [(2 : UInt8)]).length = l.length + 1 := by simp
  go_wp2_with fail
  refine (c_WriteString B b _ _ w3 b3 (by omega) (by omega)).mono ?_
  rintro e w4 ⟨rfl, b4, k4, o4⟩
  have s4 := k4.size
  have hl4 : (l ++ [(2 : UInt8)] ++ (bs (escL s.data.toList)).data.toList).length = l.length + 1 + (escL s.data.toList).length := by rw [List.length_append, hl3, slen, hbz]
  have hz2 : (ByteArray.mk #[0, 0]).size = 2 := by decide
  go_wp2_with fail
  refine (c_WriteString B b _ _ w4 b4 (by omega) (by omega)).mono ?_
  rintro e w5 ⟨rfl, b5, k5, o5⟩
  go_wp2_with fail
  refine bodyPost_end (v := .tuple #[]) (by simp [results, Tryz.results260, go_sem]) (by rfl) ?_
  refine ⟨rfl, ?_, (k3.trans k4).trans k5, (o3.trans o4).trans o5⟩
  rw [HK.out]
  have e5 : l ++ [(2 : UInt8)] ++ (bs (escL s.data.toList)).data.toList ++ (ByteArray.mk #[0, 0]).data.toList = l ++ 2 :: (escL s.data.toList ++ [0, 0]) := by
    have e6 : (bs (escL s.data.toList)).data.toList = escL s.data.toList := rfl
    have e7 : (ByteArray.mk #[0, 0]).data.toList = [(0 : UInt8), 0] := rfl
    rw [e6, e7]; simp
  rw [e5] at b5
  exact b5
set_option maxRecDepth 100000 in
set_option maxHeartbeats 8000000 in
theorem c_putSub1 (B b : Nat) (l : List UInt8) (s : ByteArray) (w : World) (h : Bld8 B b l w) (hs : s.size ≤ 1048576) (hl : l.length ≤ 1099511627776) (hBw : B ≤ w.heap.size) (htab : Tab w) (hc : canon s = true) :
    Calls Tryz.prog 260 #[.pointer (some ⟨b, 0, none⟩), .string s] w fun e w' => e = .returned (.tuple #[]) ∧ Stp B b (l ++ subKeyL s) w w' := by
  have hsz : s.size ≤ 2 ^ 62 := by omega
  have hnb := numOf_le s
  obtain ⟨N, hN⟩ : ∃ N, N = (numOf s + 1000000000000000000).toNat := ⟨_, rfl⟩
  have hNi : numOf s + 1000000000000000000 = (N : Int) := by omega
  have hNb : N ≤ 1999999999999999999 := by omega
  have hk : subKeyL s = 1 :: beT N 8 := by unfold subKeyL; rw [if_pos hc, hN]
  have HK := Lib.hid hk
  have HNB := Lib.hid hNb
  obtain ⟨z, hz⟩ : ∃ z, z = numOf s + 1000000000000000000 := ⟨_, rfl⟩
  have hzN : z = (N : Int) := by omega
  have hz1 : 0 ≤ z := by omega
  have hz2' : z ≤ 1999999999999999999 := by omega
  have hw3 : numOf s + 1000000000000000000 = z := hz.symm
  have hzm : z % 18446744073709551616 = z := by omega
  have HZN := Lib.hid hzN
  obtain ⟨hnb1, hnb2⟩ := hnb
  clear hN hk hNb hNi hz hzN
  go_enter Tryz.func260, Tryz.ntmps260
  go_wp2_with fail
  refine (c_IsCanon s _ hsz htab).mono ?_
  rintro e w1 ⟨rfl, u1⟩
  rw [hc]
  have b1 := bld_up h u1
  have k1 : Below B w w1 := Below.mono u1 hBw
  have o1 := u1.ok b
  have s1 := u1.size
  go_wp2_with fail
  refine (c_NumOf s _ hsz).mono ?_
  rintro e w0 ⟨rfl, u0⟩
  replace b1 := bld_up b1 u0
  replace k1 := k1.trans (Below.mono u0 (by omega))
  replace o1 := o1.trans (u0.ok b)
  replace s1 := Nat.le_trans s1 u0.size
  go_wp2_with fail
  refine (c_WriteByte B b l 1 w0 b1 (by omega) (by omega)).mono ?_
  rintro e w2 ⟨rfl, b2, k2, o2⟩
  have s2 := k2.size
  have kk2 := k1.trans k2
  have oo2 := o1.trans o2
  have b2' : Bld8 B b (l ++ 1 :: beT N 0) w2 := b2
  go_wp2_with fail
  go_loopw [5] (fun i wr => ∃ (m : Nat), m ≤ 8 ∧ i = .int .i64 (56 - 8 * (m : Int)) ∧ Bld8 B b (l ++ 1 :: beT N m) wr ∧ Below B w wr ∧ Lib.OthersKept 5 (some b) w wr) (fun i _ => (intOf i + 8).toNat)
  case atStart => exact ⟨0, Nat.zero_le _, rfl, b2', kk2, oo2⟩
  case round =>
    obtain ⟨m, hm, rfl, br, kr, orr⟩ := hrel
    by_cases hlt : m < 8
    · have hlen := beT_len N m
      have hst : beT N (m + 1) = beT N m ++ [UInt8.ofNat (N / 256 ^ (7 - m))] := rfl
      obtain ⟨q, hq⟩ : ∃ q, q = N / 256 ^ (7 - m) := ⟨_, rfl⟩
      have hqn : q ≤ 1999999999999999999 := by rw [hq]; exact Nat.le_trans (Nat.div_le_self _ _) HNB.out
      rw [← hq] at hst
      obtain ⟨c, hb⟩ : ∃ c, c = UInt8.ofNat q := ⟨_, rfl⟩
      rw [← hb] at hst
      have hcv : IntKind.u8.wrap (q : Int) = (c.toNat : Int) := by
        have : c.toNat = q % 256 := by rw [hb]; simp [UInt8.toNat_ofNat']
        rw [this]
        show ((q : Int) % 256) = _
        omega
      have hbl := c.toNat_lt
      have hbm : (c.toNat : Int) % 256 = (c.toNat : Int) := by omega
      have hqb : (q : Int) % 256 = (c.toNat : Int) := by rw [← hcv]; rfl
      have HS := Lib.hid hst
      have HB := Lib.hid hb
      have HL := Lib.hid hlen
      clear hst hb hlen
      have hm8 : m = 0 ∨ m = 1 ∨ m = 2 ∨ m = 3 ∨ m = 4 ∨ m = 5 ∨ m = 6 ∨ m = 7 := by omega
      rcases hm8 with rfl | rfl | rfl | rfl | rfl | rfl | rfl | rfl
      · have hdv : z / 72057594037927936 = (q : Int) := by
          rw [hq, HZN.out]
          show (N : Int) / 72057594037927936 = ((N / 72057594037927936 : Nat) : Int)
          omega
        clear hq hqn
        go_wp2_with fail
        refine (c_WriteByte B b (l ++ 1 :: beT N 0) c wr br (by rw [List.length_append, List.length_cons, HL.out]; omega) (by have := kr.size; omega)).mono ?_
        rintro e w3 ⟨rfl, b3, k3, o3⟩
        go_wp2_with fail
        go_roundw
        case rel => exact ⟨1, by omega, rfl, by rw [HS.out]; simpa using b3, kr.trans k3, orr.trans o3⟩
        case measure => simp [intOf]; try omega
      · have hdv : z / 281474976710656 = (q : Int) := by
          rw [hq, HZN.out]
          show (N : Int) / 281474976710656 = ((N / 281474976710656 : Nat) : Int)
          omega
        clear hq hqn
        go_wp2_with fail
        refine (c_WriteByte B b (l ++ 1 :: beT N 1) c wr br (by rw [List.length_append, List.length_cons, HL.out]; omega) (by have := kr.size; omega)).mono ?_
        rintro e w3 ⟨rfl, b3, k3, o3⟩
        go_wp2_with fail
        go_roundw
        case rel => exact ⟨2, by omega, rfl, by rw [HS.out]; simpa using b3, kr.trans k3, orr.trans o3⟩
        case measure => simp [intOf]; try omega
      · have hdv : z / 1099511627776 = (q : Int) := by
          rw [hq, HZN.out]
          show (N : Int) / 1099511627776 = ((N / 1099511627776 : Nat) : Int)
          omega
        clear hq hqn
        go_wp2_with fail
        refine (c_WriteByte B b (l ++ 1 :: beT N 2) c wr br (by rw [List.length_append, List.length_cons, HL.out]; omega) (by have := kr.size; omega)).mono ?_
        rintro e w3 ⟨rfl, b3, k3, o3⟩
        go_wp2_with fail
        go_roundw
        case rel => exact ⟨3, by omega, rfl, by rw [HS.out]; simpa using b3, kr.trans k3, orr.trans o3⟩
        case measure => simp [intOf]; try omega
      · have hdv : z / 4294967296 = (q : Int) := by
          rw [hq, HZN.out]
          show (N : Int) / 4294967296 = ((N / 4294967296 : Nat) : Int)
          omega
        clear hq hqn
        go_wp2_with fail
        refine (c_WriteByte B b (l ++ 1 :: beT N 3) c wr br (by rw [List.length_append, List.length_cons, HL.out]; omega) (by have := kr.size; omega)).mono ?_
        rintro e w3 ⟨rfl, b3, k3, o3⟩
        go_wp2_with fail
        go_roundw
        case rel => exact ⟨4, by omega, rfl, by rw [HS.out]; simpa using b3, kr.trans k3, orr.trans o3⟩
        case measure => simp [intOf]; try omega
      · have hdv : z / 16777216 = (q : Int) := by
          rw [hq, HZN.out]
          show (N : Int) / 16777216 = ((N / 16777216 : Nat) : Int)
          omega
        clear hq hqn
        go_wp2_with fail
        refine (c_WriteByte B b (l ++ 1 :: beT N 4) c wr br (by rw [List.length_append, List.length_cons, HL.out]; omega) (by have := kr.size; omega)).mono ?_
        rintro e w3 ⟨rfl, b3, k3, o3⟩
        go_wp2_with fail
        go_roundw
        case rel => exact ⟨5, by omega, rfl, by rw [HS.out]; simpa using b3, kr.trans k3, orr.trans o3⟩
        case measure => simp [intOf]; try omega
      · have hdv : z / 65536 = (q : Int) := by
          rw [hq, HZN.out]
          show (N : Int) / 65536 = ((N / 65536 : Nat) : Int)
          omega
        clear hq hqn
        go_wp2_with fail
        refine (c_WriteByte B b (l ++ 1 :: beT N 5) c wr br (by rw [List.length_append, List.length_cons, HL.out]; omega) (by have := kr.size; omega)).mono ?_
        rintro e w3 ⟨rfl, b3, k3, o3⟩
        go_wp2_with fail
        go_roundw
        case rel => exact ⟨6, by omega, rfl, by rw [HS.out]; simpa using b3, kr.trans k3, orr.trans o3⟩
        case measure => simp [intOf]; try omega
      · have hdv : z / 256 = (q : Int) := by
          rw [hq, HZN.out]
          show (N : Int) / 256 = ((N / 256 : Nat) : Int)
          omega
        clear hq hqn
        go_wp2_with fail
        refine (c_WriteByte B b (l ++ 1 :: beT N 6) c wr br (by rw [List.length_append, List.length_cons, HL.out]; omega) (by have := kr.size; omega)).mono ?_
        rintro e w3 ⟨rfl, b3, k3, o3⟩
        go_wp2_with fail
        go_roundw
        case rel => exact ⟨7, by omega, rfl, by rw [HS.out]; simpa using b3, kr.trans k3, orr.trans o3⟩
        case measure => simp [intOf]; try omega
      · have hdv : z / 1 = (q : Int) := by
          rw [hq, HZN.out]
          show (N : Int) / 1 = ((N / 1 : Nat) : Int)
          omega
        clear hq hqn
        go_wp2_with fail
        refine (c_WriteByte B b (l ++ 1 :: beT N 7) c wr br (by rw [List.length_append, List.length_cons, HL.out]; omega) (by have := kr.size; omega)).mono ?_
        rintro e w3 ⟨rfl, b3, k3, o3⟩
        go_wp2_with fail
        go_roundw
        case rel => exact ⟨8, by omega, rfl, by rw [HS.out]; simpa using b3, kr.trans k3, orr.trans o3⟩
        case measure => simp [intOf]; try omega
    · obtain rfl : m = 8 := by omega
      go_wp2_with fail
      refine bodyPost_ret (v := .tuple #[]) (by simp [results, Tryz.results260, go_sem]) (by rfl) ?_
      exact ⟨rfl, by rw [HK.out]; exact br, kr, orr⟩
theorem c_putSub (B b : Nat) (l : List UInt8) (s : ByteArray) (w : World) (h : Bld8 B b l w) (hs : s.size ≤ 1048576) (hl : l.length ≤ 1099511627776) (hBw : B ≤ w.heap.size) (hB0 : 0 < B) (htab : Tab w) (hm : MaxL w) :
    Calls Tryz.prog 260 #[.pointer (some ⟨b, 0, none⟩), .string s] w fun e w' => e = .returned (.tuple #[]) ∧ Stp B b (l ++ subKeyL s) w w' := by
  cases hc : canon s
  · exact c_putSub2 B b l s w h hs hl hBw hB0 htab hm hc
  · exact c_putSub1 B b l s w h hs hl hBw htab hc
end Go.Proofs.YtfehlcbaalbajaaGreatDoor
