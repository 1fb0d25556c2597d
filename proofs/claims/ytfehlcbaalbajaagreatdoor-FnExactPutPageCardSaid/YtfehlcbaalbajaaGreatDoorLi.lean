/-
  Numbers as bytes, the lowest first: little, l18Fix.
-/
import Derived.Test.YtfehlcbaalbajaaGreatDoorPu
import Derived.Test.YtfehlcbaalbajaaGreatDoorZs
import Derived.Laws.BitsAllLaws
import Derived.Lib.ConvBytes
namespace Go.Proofs.YtfehlcbaalbajaaGreatDoor
open Go.RowKit
set_option linter.unusedVariables false
set_option linter.unusedSimpArgs false

theorem i64_and255 (n : Int) : bits .and .i64 n 255 = n % 256 := by
  have h255 : (BitVec.ofInt 64 255).toNat = 2 ^ 8 - 1 := by decide
  have key : (BitVec.ofInt 64 n &&& BitVec.ofInt 64 255).toNat = (n % ((2 ^ 64 : Nat) : Int)).toNat % 2 ^ 8 := by
    rw [BitVec.toNat_and, BitVec.toNat_ofInt, h255, Nat.and_two_pow_sub_one_eq_mod]
  show IntKind.i64.wrap ((BitVec.ofInt 64 n &&& BitVec.ofInt 64 255).toNat : Nat) = n % 256
  rw [key, IntKind.wrap_i64]
  omega
def shU : Sh UInt8 where
  size := 1
  rep := fun _ _ _ cs b => cs = [.int .u8 (b.toNat : Int)]
  own := fun _ _ _ cs b bl => cs = [.int .u8 (b.toNat : Int)] ∧ bl = []
  sz := fun _ => 0
theorem good_U : Good shU := by
  refine ⟨?_, ?_, ?_, ?_, ?_, ?_, ?_, ?_, by decide, ?_⟩ <;> simp +contextual [shU, Value.oneCell']
theorem flat_U : Flat shU := ⟨fun h _ _ _ => ⟨h, rfl⟩⟩
theorem SO.bytes {w : World} {lo hi : Nat} {A : Option Addr} {c : Nat} {xs : List UInt8} {bl : List Nat} (h : SO shU w lo hi A c xs bl) (hp : 0 < xs.length) : ∃ g off, A = some ⟨g, off, none⟩ ∧ Lib.Bytes w g off ⟨xs.toArray⟩ := by
  obtain ⟨g, off, hA, _, _, h3⟩ := (h.rep good_U).2.2 hp
  refine ⟨g, off, hA, fun i hi => ?_⟩
  have hi' : i < xs.length := by simpa [ByteArray.size] using hi
  obtain ⟨cs, hc, rfl⟩ := h3 i hi'
  have := hc.2 0 (by decide)
  have e : (ByteArray.mk xs.toArray)[i] = xs[i] := by simp [ByteArray.getElem_eq_getElem_data]
  rw [e]
  simpa [shU] using this

def leL : Nat → Nat → List UInt8
  | _, 0 => []
  | n, k + 1 => UInt8.ofNat n :: leL (n / 256) k
theorem leL_len (k : Nat) : ∀ n, (leL n k).length = k := by
  induction k with
  | zero => intro n; rfl
  | succ k ih => intro n; simp [leL, ih]
theorem leL_snoc (k : Nat) : ∀ n, leL n (k + 1) = leL n k ++ [UInt8.ofNat (n / 256 ^ k)] := by
  induction k with
  | zero => intro n; simp [leL]
  | succ k ih =>
    intro n
    rw [leL, ih, leL, List.cons_append, Nat.div_div_eq_div_mul, Nat.pow_succ, Nat.mul_comm]
def leS (n k : Nat) : ByteArray := ⟨(leL n k).toArray⟩
theorem leS_size (n k : Nat) : (leS n k).size = k := by
  show (leL n k).toArray.size = k
  simp [leL_len]

set_option maxRecDepth 100000 in
set_option maxHeartbeats 4000000 in
theorem c_little (n k : Nat) (w : World) (hn : n ≤ 9223372036854775807) (hk1 : 1 ≤ k) (hk : k ≤ 16) : Calls Tryz.prog 124 #[.int .i64 (n : Int), .int .i64 (k : Int)] w (RetV (.string (leS n k)) w) := by
  obtain ⟨i0, hi0, hz0, hz1, hz2⟩ := info_parts info_B8
  go_enter Tryz.func124, Tryz.ntmps124
  go_wp2_with fail
  go_loopw [0, 5, 8] (fun nv bv i wr => ∃ (j : Nat) (D : Option Addr) (d : Nat) (bl : List Nat), j ≤ k ∧ i = .int .i64 j ∧ nv = .int .i64 ((n / 256 ^ j : Nat) : Int) ∧ bv = .slice D (leL n j).length d ∧ SO shU wr w.heap.size wr.heap.size D d (leL n j) bl ∧ bl.Nodup ∧ Up w wr) (fun _ _ i _ => k - (intOf i).toNat)
  case atStart => exact ⟨0, _, 0, [], Nat.zero_le _, rfl, by simp, rfl, ⟨Nat.le_refl _, Nat.zero_le _, .inl ⟨rfl, rfl, rfl⟩⟩, by simp, (Up.refl w).alloc _⟩
  case round =>
    obtain ⟨j, D, d, bl, hj, rfl, rfl, rfl, so, nd, hu⟩ := hrel
    have HJ := Lib.hid (leL_len j n)
    by_cases hlt : j < k
    · have hm : n / 256 ^ j ≤ 9223372036854775807 := Nat.le_trans (Nat.div_le_self _ _) hn
      have hs := leL_snoc j n
      have hdd : n / 256 ^ j / 256 = n / 256 ^ (j + 1) := by rw [Nat.div_div_eq_div_mul, Nat.pow_succ]
      have HS := Lib.hid hs; clear hs
      have HD := Lib.hid hdd; clear hdd
      obtain ⟨m, hmm⟩ : ∃ m, m = n / 256 ^ j := ⟨_, rfl⟩
      rw [← hmm] at hm ⊢
      have HM := Lib.hid hmm; clear hmm
      have hcv : IntKind.u8.wrap (m : Int) = (((UInt8.ofNat m).toNat : Nat) : Int) := by
        have : (UInt8.ofNat m).toNat = m % 256 := by simp [UInt8.toNat_ofNat']
        rw [this]
        show ((m : Int) % 256) = _
        omega
      have hfd : (m : Int).fdiv (2 ^ min (Int.toNat 8) IntKind.i64.bits) = ((m / 256 : Nat) : Int) := by
        show (m : Int).fdiv 256 = _
        rw [Int.fdiv_eq_ediv_of_nonneg _ (by omega)]; omega
      obtain ⟨b, hb⟩ : ∃ b, b = UInt8.ofNat m := ⟨_, rfl⟩
      rw [← hb] at hcv
      have hmod : (m : Int) % 256 = (b.toNat : Int) := by rw [← hcv]; rfl
      have hbl := b.toNat_lt
      have hand : bits .and .i64 (m : Int) 255 = (b.toNat : Int) := by rw [i64_and255, hmod]
      have hbm : (b.toNat : Int) % 256 = (b.toNat : Int) := by omega
      have HB := Lib.hid hb; clear hb
      have kq := Bk.new wr 5 #[.int .u8 (b.toNat : Int)]
      have uq := (Up.refl wr).alloc (.cells #[.int .u8 (b.toNat : Int)] 5)
      have ho : shU.own (wr.alloc (.cells #[.int .u8 (b.toNat : Int)] 5)) w.heap.size (wr.alloc (.cells #[.int .u8 (b.toNat : Int)] 5)).heap.size [.int .u8 (b.toNat : Int)] b [] := ⟨rfl, rfl⟩
      have hlo := hu.size
      have hx1 : ((leL n j).length + 1) * i0.bytes ≤ 140737488355328 := by rw [hz2, HJ.out]; omega
      have hx2 : (leL n j).length + 1 ≤ maxLen := by rw [HJ.out]; unfold maxLen; omega
      go_wp2_with (first
        | (at_builtin
           refine wpList_app good_U rfl _ _ _ _ 5 rfl i0 _ Tryz.underlying132 hi0 hz0 hz1 (by rfl) (lo := w.heap.size) (xs := leL n j) (ys := [b]) (bl := bl) (bs := [[]]) (news := [.int .u8 (b.toNat : Int)]) rfl rfl (so.up good_U uq) (by simpa using nd) (Src.box (t := 5) Tryz.underlying132 kq (by simp [Value.oneCell']) (by rw [hz1]; rfl)) (Rowed.one good_U ho) (by simp; omega) hx1 hx2 ?_
           intro D' d' bl' w1 hap
           obtain ⟨so1, nd1, mem1, on1⟩ := hap))
      go_roundw
      case rel =>
        refine ⟨j + 1, D', d', bl', by omega, by go_num, by rw [← HD.out, ← HM.out]; go_num, by rw [HS.out, List.length_append]; rfl, ?_, nd1, (hu.trans uq).only on1 (fun y hy => (so.in_ good_U y hy).1)⟩
        rw [HS.out, ← HM.out, ← HB.out]
        exact so1
      case measure => simp [intOf]; omega
    · obtain rfl : j = k := by omega
      obtain ⟨g, off, rfl, hby⟩ := so.bytes (by rw [HJ.out]; omega)
      have hcv := Lib.run_convert_whole (P := Tryz.prog) wr 132 5 9 Tryz.underlying132 Tryz.underlying5 Tryz.underlying9 g off ⟨(leL n j).toArray⟩ hby d
      have hsz : (ByteArray.mk (leL n j).toArray).size = (leL n j).length := by simp [ByteArray.size]
      rw [hsz] at hcv
      clear hby hsz
      go_wp2_with fail
      go_ret
      exact ⟨rfl, hu⟩

set_option maxRecDepth 100000 in
set_option maxHeartbeats 4000000 in
theorem c_l18Fix (n k : Nat) (w : World) (hn : n ≤ 9223372036854775807) (hk1 : 1 ≤ k) (hk : k ≤ 16) : Calls Tryz.prog 118 #[.int .i64 (n : Int), .int .i64 (k : Int)] w (RetV (.string (leS n k)) w) := by
  obtain ⟨i0, hi0, hz0, hz1, hz2⟩ := info_parts info_B8
  go_enter Tryz.func118, Tryz.ntmps118
  go_wp2_with fail
  go_loopw [0, 5, 6] (fun nv bv i wr => ∃ (j : Nat) (D : Option Addr) (d : Nat) (bl : List Nat), j ≤ k ∧ i = .int .i64 j ∧ nv = .int .i64 ((n / 256 ^ j : Nat) : Int) ∧ bv = .slice D (leL n j).length d ∧ SO shU wr w.heap.size wr.heap.size D d (leL n j) bl ∧ bl.Nodup ∧ Up w wr) (fun _ _ i _ => k - (intOf i).toNat)
  case atStart => exact ⟨0, _, 0, [], Nat.zero_le _, rfl, by simp, rfl, ⟨Nat.le_refl _, Nat.zero_le _, .inl ⟨rfl, rfl, rfl⟩⟩, by simp, (Up.refl w).alloc _⟩
  case round =>
    obtain ⟨j, D, d, bl, hj, rfl, rfl, rfl, so, nd, hu⟩ := hrel
    have HJ := Lib.hid (leL_len j n)
    by_cases hlt : j < k
    · have hm : n / 256 ^ j ≤ 9223372036854775807 := Nat.le_trans (Nat.div_le_self _ _) hn
      have hs := leL_snoc j n
      have hdd : n / 256 ^ j / 256 = n / 256 ^ (j + 1) := by rw [Nat.div_div_eq_div_mul, Nat.pow_succ]
      have HS := Lib.hid hs; clear hs
      have HD := Lib.hid hdd; clear hdd
      obtain ⟨m, hmm⟩ : ∃ m, m = n / 256 ^ j := ⟨_, rfl⟩
      rw [← hmm] at hm ⊢
      have HM := Lib.hid hmm; clear hmm
      have hcv : IntKind.u8.wrap (m : Int) = (((UInt8.ofNat m).toNat : Nat) : Int) := by
        have : (UInt8.ofNat m).toNat = m % 256 := by simp [UInt8.toNat_ofNat']
        rw [this]
        show ((m : Int) % 256) = _
        omega
      have hfd : (m : Int).fdiv (2 ^ min (Int.toNat 8) IntKind.i64.bits) = ((m / 256 : Nat) : Int) := by
        show (m : Int).fdiv 256 = _
        rw [Int.fdiv_eq_ediv_of_nonneg _ (by omega)]; omega
      obtain ⟨b, hb⟩ : ∃ b, b = UInt8.ofNat m := ⟨_, rfl⟩
      rw [← hb] at hcv
      have hmod : (m : Int) % 256 = (b.toNat : Int) := by rw [← hcv]; rfl
      have hbl := b.toNat_lt
      have hand : bits .and .i64 (m : Int) 255 = (b.toNat : Int) := by rw [i64_and255, hmod]
      have hbm : (b.toNat : Int) % 256 = (b.toNat : Int) := by omega
      have HB := Lib.hid hb; clear hb
      have kq := Bk.new wr 5 #[.int .u8 (b.toNat : Int)]
      have uq := (Up.refl wr).alloc (.cells #[.int .u8 (b.toNat : Int)] 5)
      have ho : shU.own (wr.alloc (.cells #[.int .u8 (b.toNat : Int)] 5)) w.heap.size (wr.alloc (.cells #[.int .u8 (b.toNat : Int)] 5)).heap.size [.int .u8 (b.toNat : Int)] b [] := ⟨rfl, rfl⟩
      have hlo := hu.size
      have hx1 : ((leL n j).length + 1) * i0.bytes ≤ 140737488355328 := by rw [hz2, HJ.out]; omega
      have hx2 : (leL n j).length + 1 ≤ maxLen := by rw [HJ.out]; unfold maxLen; omega
      go_wp2_with (first
        | (at_builtin
           refine wpList_app good_U rfl _ _ _ _ 5 rfl i0 _ Tryz.underlying132 hi0 hz0 hz1 (by rfl) (lo := w.heap.size) (xs := leL n j) (ys := [b]) (bl := bl) (bs := [[]]) (news := [.int .u8 (b.toNat : Int)]) rfl rfl (so.up good_U uq) (by simpa using nd) (Src.box (t := 5) Tryz.underlying132 kq (by simp [Value.oneCell']) (by rw [hz1]; rfl)) (Rowed.one good_U ho) (by simp; omega) hx1 hx2 ?_
           intro D' d' bl' w1 hap
           obtain ⟨so1, nd1, mem1, on1⟩ := hap))
      go_roundw
      case rel =>
        refine ⟨j + 1, D', d', bl', by omega, by go_num, by rw [← HD.out, ← HM.out]; go_num, by rw [HS.out, List.length_append]; rfl, ?_, nd1, (hu.trans uq).only on1 (fun y hy => (so.in_ good_U y hy).1)⟩
        rw [HS.out, ← HM.out, ← HB.out]
        exact so1
      case measure => simp [intOf]; omega
    · obtain rfl : j = k := by omega
      obtain ⟨g, off, rfl, hby⟩ := so.bytes (by rw [HJ.out]; omega)
      have hcv := Lib.run_convert_whole (P := Tryz.prog) wr 132 5 9 Tryz.underlying132 Tryz.underlying5 Tryz.underlying9 g off ⟨(leL n j).toArray⟩ hby d
      have hsz : (ByteArray.mk (leL n j).toArray).size = (leL n j).length := by simp [ByteArray.size]
      rw [hsz] at hcv
      clear hby hsz
      go_wp2_with fail
      go_ret
      exact ⟨rfl, hu⟩
end Go.Proofs.YtfehlcbaalbajaaGreatDoor
