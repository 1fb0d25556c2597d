/-
  The reference's decoder of subscripts: l02Num, l02Take.
-/
import Derived.Test.YtfehlcbaalbajaaGreatDoorDc
import Derived.Test.YtfehlcbaalbajaaGreatDoorNt
namespace Go.Proofs.YtfehlcbaalbajaaGreatDoor
open Go.RowKit
set_option linter.unusedVariables false
set_option linter.unusedSimpArgs false

theorem beV_take (s : ByteArray) {k : Nat} (h : k < s.size) : beV (s.data.toList.take (k + 1)) = beV (s.data.toList.take k) * 256 + s[k].toNat := by
  rw [List.take_succ_eq_append_getElem (by rw [slen]; exact h), beV_snoc]
  rfl
theorem or_byte (x c : Int) (v : Nat) (b : UInt8) (hx : x = wrap64 ((v : Int) * 256)) (hc : c = (b.toNat : Int)) : bits .or .i64 x c = wrap64 ((v * 256 + b.toNat : Nat) : Int) := by
  have hb := b.toNat_lt
  have e1 : (BitVec.ofInt 64 x).toNat = (v % 72057594037927936) * 256 := by
    rw [BitVec.toNat_ofInt, hx]
    unfold wrap64
    omega
  have e2 : (BitVec.ofInt 64 c).toNat = b.toNat := by
    rw [BitVec.toNat_ofInt, hc]
    omega
  have e3 : (BitVec.ofInt 64 x ||| BitVec.ofInt 64 c).toNat = (v % 72057594037927936) * 256 + b.toNat := by
    rw [BitVec.toNat_or, e1, e2]
    have := Nat.shiftLeft_add_eq_or_of_lt (b := b.toNat) (i := 8) (by omega) (v % 72057594037927936)
    rw [Nat.shiftLeft_eq] at this
    exact this.symm
  show IntKind.i64.wrap ((BitVec.ofInt 64 x ||| BitVec.ofInt 64 c).toNat : Int) = _
  rw [e3, IntKind.wrap_i64]
  unfold wrap64
  omega
set_option maxRecDepth 100000 in
set_option maxHeartbeats 4000000 in
theorem c_l02Num (s : ByteArray) (w : World) (h : s.size = 8) : Calls Tryz.prog 233 #[.string s] w (RetV (.int .i64 (wrap64 ((beV s.data.toList : Nat) : Int))) w) := by
  go_enter Tryz.func233, Tryz.ntmps233
  go_wp2_with fail
  go_loopw [4, 3] (fun i n wr => ∃ k : Nat, k ≤ 8 ∧ i = .int .i64 k ∧ n = .int .i64 (wrap64 ((beV (s.data.toList.take k) : Nat) : Int)) ∧ Up w wr) (fun i _ _ => 8 - (intOf i).toNat)
  case atStart => exact ⟨0, Nat.zero_le _, rfl, by simp [beV, wrap64], Up.refl _⟩
  case round =>
    obtain ⟨k, hk, rfl, rfl, hu⟩ := hrel
    by_cases hlt : k < 8
    · have hks : k < s.size := by omega
      have HB := Lib.hid (beV_take s hks)
      generalize beV (s.data.toList.take k) = V at *
      go_wp2_with fail
      go_roundw
      case rel =>
        have hc := s[k].toNat_lt
        refine ⟨k + 1, by omega, by go_num, ?_, hu⟩
        rw [or_byte _ _ V s[k] (by unfold wrap64; omega) (by unfold wrap64; omega), HB.out]
      case measure => simp [intOf]; omega
    · obtain rfl : k = 8 := by omega
      have ht : s.data.toList.take 8 = s.data.toList := List.take_of_length_le (by rw [slen]; omega)
      rw [ht]
      go_wp2_with fail
      go_ret
      exact ⟨rfl, hu⟩
def takeV : Option (ByteArray × List UInt8) → Value
  | none => .tuple #[.string ⟨#[]⟩, .string ⟨#[]⟩, .bool false]
  | some p => .tuple #[.string p.1, .string (bs p.2), .bool true]
theorem cons_bytes (s : ByteArray) (h : 0 < s.size) : s.data.toList = s[0] :: s.data.toList.drop 1 := by
  have hl := slen s
  cases e : s.data.toList with
  | nil => rw [e] at hl; simp at hl; omega
  | cons c l =>
    have : s[0] = s.data.toList[0]'(by rw [hl]; exact h) := rfl
    rw [this]
    simp [e]
theorem ext_bs (s : ByteArray) (a b : Nat) : s.extract a b = bs ((s.data.toList.take b).drop a) := bs_extract s.data.toList a b
theorem SO.bytesA {w : World} {lo hi : Nat} {g off : Nat} {c : Nat} {xs : List UInt8} {bl : List Nat} (h : SO shU w lo hi (some ⟨g, off, none⟩) c xs bl) : Lib.Bytes w g off ⟨xs.toArray⟩ := by
  rcases Nat.eq_zero_or_pos xs.length with h0 | hp
  · obtain rfl := List.eq_nil_of_length_eq_zero h0
    exact fun i hi => absurd hi (by simp [ByteArray.size])
  · obtain ⟨g', off', e, hb⟩ := h.bytes hp
    injection e with e
    injection e with e1 e2
    subst e1 e2
    exact hb
set_option maxRecDepth 100000 in
set_option maxHeartbeats 4000000 in
theorem c_l02Take1 (s : ByteArray) (w : World) (h0 : 0 < s.size) (hs : s.size ≤ 1048576) (h1 : s[0] = 1) : Calls Tryz.prog 214 #[.string s] w (RetV (takeV (takeSub 1 1999999999999999999 s.data.toList)) w) := by
  have b1 : (s[0].toNat : Int) = 1 := u8_yb 1 rfl h1
  have hll := slen s
  rw [cons_bytes s h0, h1, takeSub, if_pos rfl]
  unfold takeNum
  by_cases h9 : 9 ≤ s.size
  · have hx : s.extract 1 9 = bs ((s.data.toList.drop 1).take 8) := by rw [ext_bs]; congr 1; rw [List.drop_take]
    have hx8 : (s.extract 1 9).size = 8 := by rw [ByteArray.size_extract]; omega
    have hle : 8 ≤ (s.data.toList.drop 1).length := by rw [List.length_drop]; omega
    have hVl : beV ((s.data.toList.drop 1).take 8) < 18446744073709551616 := by
      have := beV_lt ((s.data.toList.drop 1).take 8)
      rw [List.length_take, Nat.min_eq_left hle] at this
      exact this
    have hV : beV (s.extract 1 9).data.toList = beV ((s.data.toList.drop 1).take 8) := by rw [hx]; rfl
    have cn := fun W => c_l02Num (s.extract 1 9) W hx8
    rw [hV] at cn
    have CN := Lib.hid cn
    have hd : s.extract 9 s.size = bs ((s.data.toList.drop 1).drop 8) := by rw [ext_bs, List.take_of_length_le (by omega), List.drop_drop]
    have HD := Lib.hid hd
    generalize beV ((s.data.toList.drop 1).take 8) = V at *
    clear cn hV hx hd
    by_cases hb : 1 ≤ V ∧ V ≤ 1999999999999999999
    · have hin : inB (wrap64 (V : Int)) 1 1999999999999999999 = true := by simp [inB, wrap64]; omega
      have hw : wrap64 (V : Int) = (V : Int) := by unfold wrap64; omega
      have hn : ((V : Int) - 1000000000000000000).natAbs ≤ 999999999999999999 := by omega
      have ct := fun W => c_l01Text ((V : Int) - 1000000000000000000) W hn
      have CT := Lib.hid ct
      rw [if_pos ⟨hle, hb.1, hb.2⟩, numTx, if_pos hn]
      clear ct hn hle
      go_enter Tryz.func214, Tryz.ntmps214
      go_wp2_with fail
      refine (CN.out _).mono ?_
      rintro e w1 ⟨rfl, u1⟩
      rw [hw]
      rw [hw] at hin
      go_wp2_with (go_at_call 59; refine (in_any _ _ _ _).mono ?_; rintro e w' ⟨rfl, rfl⟩)
      refine wp_region_up (by kernel_rfl) (by kernel_rfl) ?_
      repeat (go_big_quiet_step ((go_at_call 234; exact up_call (CT.out _) (UpT.up _))))
      refine wpQuiet_nil ?_
      rintro w4 ⟨⟨w4', u4⟩, rfl⟩
      go_wp2_with fail
      go_ret3
      exact ⟨by rw [HD.out]; rfl, u1.trans u4⟩
    · have hin : inB (wrap64 (V : Int)) 1 1999999999999999999 = false := by simp [inB, wrap64]; omega
      rw [if_neg (fun hh => hb hh.2)]
      generalize wrap64 (V : Int) = V' at *
      clear hb hle
      go_enter Tryz.func214, Tryz.ntmps214
      go_wp2_with fail
      refine (CN.out _).mono ?_
      rintro e w1 ⟨rfl, u1⟩
      go_wp2_with (go_at_call 59; refine (in_any _ _ _ _).mono ?_; rintro e w' ⟨rfl, rfl⟩)
      go_ret3
      exact ⟨rfl, u1⟩
  · rw [if_neg (fun hh => h9 (by have := hh.1; rw [List.length_drop] at this; omega))]
    clear hll
    go_enter Tryz.func214, Tryz.ntmps214
    go_wp2_with fail
    go_ret3
    exact ⟨rfl, Up.refl _⟩
theorem c_l02Take0 (s : ByteArray) (w : World) (h0 : 0 < s.size) (hs : s.size ≤ 1048576) (h1 : s[0] ≠ 1) (h2 : s[0] ≠ 2) : Calls Tryz.prog 214 #[.string s] w (RetV (takeV (takeSub 1 1999999999999999999 s.data.toList)) w) := by
  have n1 := u8_nn 1 rfl h1
  have b1 := u8_nb 1 rfl h1
  have n2 := u8_nn 2 rfl h2
  have b2 := u8_nb 2 rfl h2
  have b3 := u8_nB 2 rfl h2
  rw [cons_bytes s h0, takeSub, if_neg h1, if_neg h2]
  go_enter Tryz.func214, Tryz.ntmps214
  go_wp2_with fail
  go_ret3
  exact ⟨rfl, Up.refl _⟩
set_option maxRecDepth 100000 in
set_option maxHeartbeats 8000000 in
theorem c_l02Take2 (s : ByteArray) (w : World) (h0 : 0 < s.size) (hs : s.size ≤ 1048576) (h2 : s[0] = 2) : Calls Tryz.prog 214 #[.string s] w (RetV (takeV (takeSub 1 1999999999999999999 s.data.toList)) w) := by
  obtain ⟨i0, hi0, hz0, hzc, hz2⟩ := info_parts info_B8
  have b2 : (s[0].toNat : Int) = 2 := u8_yb 2 rfl h2
  have htk : takeSub 1 1999999999999999999 s.data.toList = (decS (s.data.toList.drop 1)).map fun p => (bs p.1, p.2) := by
    rw [cons_bytes s h0, h2, takeSub, if_neg (by decide), if_pos rfl]
    simp
  rw [htk]
  clear htk h2
  have so0 : SO shU (w.alloc (.cells #[] 5)) w.heap.size (w.alloc (.cells #[] 5)).heap.size (some ⟨w.heap.size, 0, none⟩) 0 ([] : List UInt8) [] := ⟨Nat.le_refl _, Nat.zero_le _, .inl ⟨rfl, rfl, rfl⟩⟩
  have uu0 : Up w (w.alloc (.cells #[] 5)) := (Up.refl w).alloc _
  go_enter Tryz.func214, Tryz.ntmps214
  go_wp2_with fail
  go_loopw [7, 6] (fun i out wr => ∃ (k : Nat) (O : List UInt8) (D : Option Addr) (d : Nat) (bl : List Nat), 1 ≤ k ∧ k ≤ s.size ∧ i = .int .i64 k ∧ out = .slice D O.length d ∧ O.length ≤ k ∧ Hid (decS (s.data.toList.drop 1) = ahead O (decS (s.data.toList.drop k))) ∧ (∃ g off, D = some ⟨g, off, none⟩) ∧ SO shU wr w.heap.size wr.heap.size D d O bl ∧ bl.Nodup ∧ Up w wr) (fun i _ _ => s.size - (intOf i).toNat)
  case atStart => exact ⟨1, [], some ⟨w.heap.size, 0, none⟩, 0, [], Nat.le_refl _, h0, rfl, rfl, by simp, Lib.hid (by rw [ahead_nil]), ⟨_, _, rfl⟩, so0, by simp, uu0⟩
  case round =>
    obtain ⟨k, O, D, d, bl, hk1, hk, rfl, rfl, hOk, HE, ⟨g0, off0, rfl⟩, so, nd, hu⟩ := hrel
    by_cases hlt : k + 1 < s.size
    · have hk0 : k < s.size := by omega
      by_cases hz : s[k] = 0
      · have bz : (s[k].toNat : Int) = 0 := u8_yb 0 rfl hz
        by_cases hy : s[k + 1] = 0
        · have bY : (s[k + 1].toNat : Int) = 0 := u8_yb 0 rfl hy
          have hsz : (ByteArray.mk O.toArray).size = O.length := bs_size O
          have p0 : ∀ t : UpT wr, (convert 132 9 (.slice (some ⟨g0, off0, none⟩) O.length d)).run Tryz.prog t.val = .ok (.string ⟨O.toArray⟩) t.val := fun t => by
            have hcv := Lib.run_convert_whole (P := Tryz.prog) t.val 132 5 9 Tryz.underlying132 Tryz.underlying5 Tryz.underlying9 g0 off0 ⟨O.toArray⟩ (so.up good_U t.up).bytesA d
            rw [hsz] at hcv
            exact hcv
          have he : decS (s.data.toList.drop 1) = some (O, s.data.toList.drop (k + 2)) := by
            rw [HE.out, decS_00 s hlt hz hy]; simp [ahead]
          have hd : s.extract (k + 2) s.size = bs (s.data.toList.drop (k + 2)) := by rw [ext_bs, List.take_of_length_le (by rw [slen]; exact Nat.le_refl _)]
          have HEE := Lib.hid he
          have HD := Lib.hid hd
          clear he hd hsz HE
          go_wp2_with fail
          refine wp_region_up (by kernel_rfl) (by kernel_rfl) ?_
          repeat (go_big_quiet_step (fail))
          refine wpQuiet_nil ?_
          rintro w4 ⟨⟨w4', u4⟩, rfl⟩
          go_wp2_with fail
          rw [HD.out]
          refine bodyPost_ret (v := takeV (some (bs O, s.data.toList.drop (k + 2)))) (by simp [results, Tryz.results214, go_sem, takeV, bs]) rfl ?_
          exact ⟨by rw [HEE.out]; rfl, hu.trans u4⟩
        · by_cases hf : s[k + 1] = 255
          · have bF : (s[k + 1].toNat : Int) = 255 := u8_yb 255 rfl hf
            have HS := Lib.hid (show decS (s.data.toList.drop 1) = ahead (O ++ [0]) (decS (s.data.toList.drop (k + 2))) by rw [HE.out, decS_ff s hlt hz hf, ahead_map])
            clear HE hz hf
            have kq := Bk.new wr 5 #[.int .u8 0]
            have uq := (Up.refl wr).alloc (.cells #[.int .u8 0] 5)
            have ho : shU.own (wr.alloc (.cells #[.int .u8 0] 5)) w.heap.size (wr.alloc (.cells #[.int .u8 0] 5)).heap.size [.int .u8 0] 0 [] := ⟨rfl, rfl⟩
            have hlo := hu.size
            have hx1 : (O.length + 1) * i0.bytes ≤ 140737488355328 := by rw [hz2]; omega
            have hx2 : O.length + 1 ≤ maxLen := by unfold maxLen; omega
            go_wp2_with (at_builtin
                         refine wpList_app good_U rfl _ _ _ _ 5 rfl i0 _ Tryz.underlying132 hi0 hz0 hzc (by rfl) (lo := w.heap.size) (xs := O) (ys := [0]) (bl := bl) (bs := [[]]) (news := [.int .u8 0]) rfl rfl (so.up good_U uq) (by simpa using nd) (Src.box (t := 5) Tryz.underlying132 kq (by simp [Value.oneCell']) (by rw [hzc]; rfl)) (Rowed.one good_U ho) (by simp; omega) hx1 hx2 ?_
                         intro D' d' bl' w1 hap
                         obtain ⟨so1, nd1, mem1, on1⟩ := hap)
            obtain ⟨g1, off1, rfl, _⟩ := so1.bytes (by simp)
            go_roundw
            case rel => exact ⟨k + 2, O ++ [0], some ⟨g1, off1, none⟩, d', bl', by omega, by omega, by go_num, by simp, by simp; omega, HS, ⟨_, _, rfl⟩, so1, nd1, (hu.trans uq).only on1 (fun y hy => (so.in_ good_U y hy).1)⟩
            case measure => simp [intOf]; omega
          · have nY := u8_nn 0 rfl hy
            have bY := u8_nb 0 rfl hy
            have nF := u8_nn 255 rfl hf
            have bF := u8_nb 255 rfl hf
            have BF := u8_nB 255 rfl hf
            have he : decS (s.data.toList.drop 1) = none := by rw [HE.out, decS_bad s hlt hz hy hf]; rfl
            have HEE := Lib.hid he
            clear he HE
            go_wp2_with fail
            refine bodyPost_ret (v := takeV (none)) (by simp [results, Tryz.results214, go_sem, takeV, bs]) rfl ?_
            exact ⟨by rw [HEE.out]; rfl, hu⟩
      · have nz := u8_nn 0 rfl hz
        have bz := u8_nb 0 rfl hz
        have Bz := u8_nB 0 rfl hz
        have HS := Lib.hid (show decS (s.data.toList.drop 1) = ahead (O ++ [s[k]]) (decS (s.data.toList.drop (k + 1))) by rw [HE.out, decS_ne s hlt hz, ahead_map])
        clear HE hz
        have kq := Bk.new wr 5 #[.int .u8 (s[k].toNat : Int)]
        have uq := (Up.refl wr).alloc (.cells #[.int .u8 (s[k].toNat : Int)] 5)
        have ho : shU.own (wr.alloc (.cells #[.int .u8 (s[k].toNat : Int)] 5)) w.heap.size (wr.alloc (.cells #[.int .u8 (s[k].toNat : Int)] 5)).heap.size [.int .u8 (s[k].toNat : Int)] s[k] [] := ⟨rfl, rfl⟩
        have hlo := hu.size
        have hx1 : (O.length + 1) * i0.bytes ≤ 140737488355328 := by rw [hz2]; omega
        have hx2 : O.length + 1 ≤ maxLen := by unfold maxLen; omega
        go_wp2_with (at_builtin
                     refine wpList_app good_U rfl _ _ _ _ 5 rfl i0 _ Tryz.underlying132 hi0 hz0 hzc (by rfl) (lo := w.heap.size) (xs := O) (ys := [s[k]]) (bl := bl) (bs := [[]]) (news := [.int .u8 (s[k].toNat : Int)]) rfl rfl (so.up good_U uq) (by simpa using nd) (Src.box (t := 5) Tryz.underlying132 kq (by simp [Value.oneCell']) (by rw [hzc]; rfl)) (Rowed.one good_U ho) (by simp; omega) hx1 hx2 ?_
                     intro D' d' bl' w1 hap
                     obtain ⟨so1, nd1, mem1, on1⟩ := hap)
        obtain ⟨g1, off1, rfl, _⟩ := so1.bytes (by simp)
        go_roundw
        case rel => exact ⟨k + 1, O ++ [s[k]], some ⟨g1, off1, none⟩, d', bl', by omega, by omega, by go_num, by simp, by simp; omega, HS, ⟨_, _, rfl⟩, so1, nd1, (hu.trans uq).only on1 (fun y hy => (so.in_ good_U y hy).1)⟩
        case measure => simp [intOf]; omega
    · have he : decS (s.data.toList.drop 1) = none := by rw [HE.out, decS_end s hlt]; rfl
      have HEE := Lib.hid he
      clear he HE
      go_wp2_with fail
      refine bodyPost_ret (v := takeV (none)) (by simp [results, Tryz.results214, go_sem, takeV, bs]) rfl ?_
      exact ⟨by rw [HEE.out]; rfl, hu⟩
theorem c_l02Take (s : ByteArray) (w : World) (h0 : 0 < s.size) (hs : s.size ≤ 1048576) : Calls Tryz.prog 214 #[.string s] w (RetV (takeV (takeSub 1 1999999999999999999 s.data.toList)) w) := by
  by_cases h1 : s[0] = 1
  · exact c_l02Take1 s w h0 hs h1
  · by_cases h2 : s[0] = 2
    · exact c_l02Take2 s w h0 hs h2
    · exact c_l02Take0 s w h0 hs h1 h2
end Go.Proofs.YtfehlcbaalbajaaGreatDoor
