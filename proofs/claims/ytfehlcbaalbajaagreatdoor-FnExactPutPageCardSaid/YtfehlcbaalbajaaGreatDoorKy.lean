/-
  The reference's keys of subscripts: l02Key, l02Put, PutSubs, KeyOf.
-/
import Derived.Test.YtfehlcbaalbajaaGreatDoorSo
import Derived.Test.YtfehlcbaalbajaaGreatDoorLi
namespace Go.Proofs.YtfehlcbaalbajaaGreatDoor
open Go.RowKit
set_option linter.unusedVariables false
set_option linter.unusedSimpArgs false

/-- The first m of eight bytes of a number, the highest first. -/
def beT (n : Nat) : Nat → List UInt8
  | 0 => []
  | m + 1 => beT n m ++ [UInt8.ofNat (n / 256 ^ (7 - m))]
theorem beT_len (n : Nat) : ∀ m, (beT n m).length = m
  | 0 => rfl
  | m + 1 => by simp [beT, beT_len n m]
def escB (c : UInt8) : List UInt8 := if c = 0 then [0, 255] else [c]
def escL (l : List UInt8) : List UInt8 := l.flatMap escB
theorem escL_snoc (l : List UInt8) (c : UInt8) : escL (l ++ [c]) = escL l ++ escB c := by simp [escL]
theorem escL_len : ∀ l : List UInt8, (escL l).length ≤ 2 * l.length
  | [] => Nat.le_refl _
  | c :: l => by
    have := escL_len l
    have h : (escB c).length ≤ 2 := by unfold escB; split <;> simp
    show ((escB c) ++ escL l).length ≤ 2 * (l.length + 1)
    rw [List.length_append]; omega
def subKeyL (s : ByteArray) : List UInt8 := if canon s = true then 1 :: beT (numOf s + 1000000000000000000).toNat 8 else 2 :: (escL s.data.toList ++ [0, 0])
def putSubsL (l : List ByteArray) : List UInt8 := if subsB l = true then l.flatMap subKeyL else []
def keyOfL (name : ByteArray) (subs : List ByteArray) : List UInt8 := if placeB name subs = true then name.data.toList ++ 1 :: putSubsL subs else []
theorem subKeyL_len (s : ByteArray) : (subKeyL s).length ≤ 2 * s.size + 9 := by
  unfold subKeyL
  split
  · rw [List.length_cons, beT_len]; omega
  · have := escL_len s.data.toList
    rw [slen] at this
    simp; omega
theorem rowed_UU {w : World} {lo hi : Nat} {a b : UInt8} : Rowed shU w lo hi [.int .u8 (a.toNat : Int), .int .u8 (b.toNat : Int)] [a, b] [[], []] := by
  refine ⟨rfl, rfl, fun i hi => ?_⟩
  have hi2 : i = 0 ∨ i = 1 := by simp at hi; omega
  rcases hi2 with rfl | rfl
  · exact ⟨[.int .u8 (a.toNat : Int)], [], rfl, rfl, fun j hj => by obtain rfl : j = 0 := (by have : j < 1 := hj; omega); rfl, rfl, rfl⟩
  · exact ⟨[.int .u8 (b.toNat : Int)], [], rfl, rfl, fun j hj => by obtain rfl : j = 0 := (by have : j < 1 := hj; omega); rfl, rfl, rfl⟩
theorem Src.box2 {P : Program} {w : World} {tx e' : TypeId} (hk : P.underlying tx = some (.slice e')) {B : Nat} {t : TypeId} {u v : Value} (hB : Bk w B t #[u, v]) (h1 : u.oneCell' = true) (h2 : v.oneCell' = true) {n : Nat} (hn : n = 1) : Src P n tx (.slice (some ⟨B, 0, none⟩) 2 2) 2 [u, v] w :=
  Src.ofSlice w hk ⟨B, 0, none⟩ 2 2 [u, v] (by rw [hn]; rfl) (fun j x hx => by
    have hadd : (⟨B, 0, none⟩ : Addr).add j = ⟨B, 0 + j, none⟩ := by unfold Addr.add; split <;> simp_all
    rw [hadd, Nat.zero_add, hB.cell]; simpa using hx) (fun x hx => by
    rcases List.mem_cons.1 hx with rfl | hx
    · exact h1
    · have : x = v := by simpa using hx
      rw [this]; exact h2)
set_option maxRecDepth 100000 in
set_option maxHeartbeats 8000000 in
theorem c_l02Key (s : ByteArray) (w : World) (hs : s.size ≤ 1048576) : Calls Tryz.prog 236 #[.string s] w (RetV (.string (bs (subKeyL s))) w) := by
  have hsm : s.size ≤ maxLen := by unfold maxLen; omega
  obtain ⟨i0, hi0, hz0, hzc, hz2⟩ := info_parts info_B8
  cases hc : canon s
  · have hk : subKeyL s = 2 :: (escL s.data.toList ++ [0, 0]) := by unfold subKeyL; rw [if_neg (by rw [hc]; simp)]
    have HK := Lib.hid hk
    clear hk
    have so0 : SO shU (w.alloc (.cells #[] 5)) w.heap.size (w.alloc (.cells #[] 5)).heap.size (some ⟨w.heap.size, 0, none⟩) 0 ([] : List UInt8) [] := ⟨Nat.le_refl _, Nat.zero_le _, .inl ⟨rfl, rfl, rfl⟩⟩
    have uu0 : Up w (w.alloc (.cells #[] 5)) := (Up.refl w).alloc _
    have nd0 : ([] : List Nat).Nodup := by simp
    go_enter Tryz.func236, Tryz.ntmps236
    go_wp2_with fail
    refine (c_l01Canon s _ hsm).mono ?_
    rintro e w1 ⟨rfl, u1⟩
    rw [hc]
    have so1 := so0.up good_U u1
    have uu1 := uu0.trans u1
    have kqa := Bk.new w1 5 #[.int .u8 2]
    have uqa := (Up.refl w1).alloc (.cells #[.int .u8 2] 5)
    have hoa : shU.own (w1.alloc (.cells #[.int .u8 2] 5)) w.heap.size (w1.alloc (.cells #[.int .u8 2] 5)).heap.size [.int .u8 2] 2 [] := ⟨rfl, rfl⟩
    have hloa := uu1.size
    have hx1a : ((([] : List UInt8)).length + 1) * i0.bytes ≤ 140737488355328 := by rw [hz2]; first | (simp; done) | (simp; omega)
    have hx2a : (([] : List UInt8)).length + 1 ≤ maxLen := by unfold maxLen; first | (simp; done) | (simp; omega)
    go_wp2_with (first
      | (at_builtin
         refine wpList_app good_U rfl _ _ _ _ 5 rfl i0 _ Tryz.underlying132 hi0 hz0 hzc (by rfl) (lo := w.heap.size) (xs := ([] : List UInt8)) (ys := [2]) (bs := [[]]) (news := [.int .u8 2]) rfl rfl (so1.up good_U uqa) (by simp; try exact nd0) (Src.box (t := 5) Tryz.underlying132 kqa (by simp [Value.oneCell']) (by rw [hzc]; rfl)) (Rowed.one good_U hoa) (by simp; omega) hx1a hx2a ?_
         intro Da da bla wa hapa
         obtain ⟨soa, nda, mema, ona⟩ := hapa))
    have ua := (uu1.trans uqa).only ona (fun y hy => absurd hy (by simp))
    have soa' : SO shU wa w.heap.size wa.heap.size Da da (2 :: escL (s.data.toList.take 0)) bla := soa
    clear soa so1 so0 hoa hx1a hx2a kqa hloa
    go_loopw [6, 3] (fun i out wr => ∃ (k : Nat) (D : Option Addr) (d : Nat) (bl : List Nat), k ≤ s.size ∧ i = .int .i64 k ∧ out = .slice D (2 :: escL (s.data.toList.take k)).length d ∧ SO shU wr w.heap.size wr.heap.size D d (2 :: escL (s.data.toList.take k)) bl ∧ bl.Nodup ∧ Up w wr) (fun i _ _ => s.size - (intOf i).toNat)
    case atStart => exact ⟨0, Da, da, bla, Nat.zero_le _, rfl, rfl, soa', nda, ua⟩
    case round =>
      obtain ⟨k, D, d, bl, hk, rfl, rfl, so, nd, hu⟩ := hrel
      have hll := slen s
      have hel := escL_len (s.data.toList.take k)
      rw [List.length_take] at hel
      by_cases hlt : k < s.size
      · have hsn : escL (s.data.toList.take (k + 1)) = escL (s.data.toList.take k) ++ escB s[k] := by
          rw [List.take_succ_eq_append_getElem (by omega), escL_snoc]; rfl
        have hlen1 : (2 :: escL (s.data.toList.take k)).length ≤ 2 * k + 1 := by rw [List.length_cons]; omega
        have HLL := Lib.hid hlen1
        by_cases hz : s[k] = 0
        · have hsn2 : 2 :: escL (s.data.toList.take (k + 1)) = ((2 :: escL (s.data.toList.take k)) ++ [0]) ++ [255] := by rw [hsn, hz]; simp [escB]
          have HS := Lib.hid hsn2
          have e0 := u8_yb 0 rfl hz
          have hle : ((2 :: escL (s.data.toList.take k)) ++ [(0 : UInt8)]).length ≤ 2 * k + 2 := by rw [List.length_append]; simp only [List.length_cons, List.length_nil] at hlen1 ⊢; omega
          have HLE := Lib.hid hle
          clear hsn hsn2 hz hel hll hlen1 hle
          generalize 2 :: escL (s.data.toList.take k) = L1 at *
          have kqb := Bk.new wr 5 #[.int .u8 0]
          have uqb := (Up.refl wr).alloc (.cells #[.int .u8 0] 5)
          have hob : shU.own (wr.alloc (.cells #[.int .u8 0] 5)) w.heap.size (wr.alloc (.cells #[.int .u8 0] 5)).heap.size [.int .u8 0] 0 [] := ⟨rfl, rfl⟩
          have hlob := hu.size
          have hx1b : ((L1).length + 1) * i0.bytes ≤ 140737488355328 := by rw [hz2]; have := HLL.out; omega
          have hx2b : (L1).length + 1 ≤ maxLen := by unfold maxLen; have := HLL.out; omega
          go_wp2_with (first
            | (at_builtin
               refine wpList_app good_U rfl _ _ _ _ 5 rfl i0 _ Tryz.underlying132 hi0 hz0 hzc (by rfl) (lo := w.heap.size) (xs := L1) (ys := [0]) (bs := [[]]) (news := [.int .u8 0]) rfl rfl (so.up good_U uqb) (by simp; try exact nd) (Src.box (t := 5) Tryz.underlying132 kqb (by simp [Value.oneCell']) (by rw [hzc]; rfl)) (Rowed.one good_U hob) (by simp; omega) hx1b hx2b ?_
               intro Db db blb wb hapb
               obtain ⟨sob, ndb, memb, onb⟩ := hapb
               have hub := (hu.trans uqb).only onb (fun y hy => (so.in_ good_U y hy).1)
               have sob' : SO shU wb w.heap.size wb.heap.size Db db (L1 ++ [0]) blb := sob
               have hlb : (L1 ++ [(0 : UInt8)]).length = L1.length + 1 := by simp
               have kqc := Bk.new wb 5 #[.int .u8 255]
               have uqc := (Up.refl wb).alloc (.cells #[.int .u8 255] 5)
               have hoc : shU.own (wb.alloc (.cells #[.int .u8 255] 5)) w.heap.size (wb.alloc (.cells #[.int .u8 255] 5)).heap.size [.int .u8 255] 255 [] := ⟨rfl, rfl⟩
               have hloc := hub.size
               have hx1c : (((L1 ++ [0])).length + 1) * i0.bytes ≤ 140737488355328 := by rw [hz2]; have := HLE.out; omega
               have hx2c : ((L1 ++ [0])).length + 1 ≤ maxLen := by unfold maxLen; have := HLE.out; omega)
            | (at_builtin
               refine wpList_app good_U rfl _ _ _ _ 5 rfl i0 _ Tryz.underlying132 hi0 hz0 hzc (by rfl) (lo := w.heap.size) (xs := (L1 ++ [0])) (ys := [255]) (bs := [[]]) (news := [.int .u8 255]) (by rw [hlb]; rfl) rfl (sob'.up good_U uqc) (by simp; try exact ndb) (Src.box (t := 5) Tryz.underlying132 kqc (by simp [Value.oneCell']) (by rw [hzc]; rfl)) (Rowed.one good_U hoc) (by simp; omega) hx1c hx2c ?_
               intro Dc dc blc wc hapc
               obtain ⟨soc, ndc, memc, onc⟩ := hapc))
          go_roundw
          case rel => exact ⟨k + 1, Dc, dc, blc, by omega, by go_num, by rw [HS.out]; simp, by rw [HS.out]; exact soc, ndc, (hub.trans uqc).only onc (fun y hy => (sob'.in_ good_U y hy).1)⟩
          case measure => simp [intOf]; omega
        · have hsn2 : 2 :: escL (s.data.toList.take (k + 1)) = (2 :: escL (s.data.toList.take k)) ++ [s[k]] := by rw [hsn]; simp [escB, hz]
          have HS := Lib.hid hsn2
          have n0 := u8_nn 0 rfl hz
          have b0 := u8_nb 0 rfl hz
          obtain ⟨b, hb⟩ : ∃ b, b = s[k] := ⟨_, rfl⟩
          rw [← hb] at HS
          have hbz : (s[k].toNat : Int) = (b.toNat : Int) := by rw [hb]
          have n0' : ¬ (b.toNat : Int) = 0 := by rw [← hbz]; exact n0
          have b0' : ((b.toNat : Int) == 0) = false := by rw [← hbz]; exact b0
          clear hsn hsn2 hz hel hll hlen1 hb n0 b0
          generalize 2 :: escL (s.data.toList.take k) = L1 at *
          have kqb := Bk.new wr 5 #[.int .u8 (b.toNat : Int)]
          have uqb := (Up.refl wr).alloc (.cells #[.int .u8 (b.toNat : Int)] 5)
          have hob : shU.own (wr.alloc (.cells #[.int .u8 (b.toNat : Int)] 5)) w.heap.size (wr.alloc (.cells #[.int .u8 (b.toNat : Int)] 5)).heap.size [.int .u8 (b.toNat : Int)] b [] := ⟨rfl, rfl⟩
          have hlob := hu.size
          have hx1b : ((L1).length + 1) * i0.bytes ≤ 140737488355328 := by rw [hz2]; have := HLL.out; omega
          have hx2b : (L1).length + 1 ≤ maxLen := by unfold maxLen; have := HLL.out; omega
          go_wp2_with (first
            | (at_builtin
               refine wpList_app good_U rfl _ _ _ _ 5 rfl i0 _ Tryz.underlying132 hi0 hz0 hzc (by rfl) (lo := w.heap.size) (xs := L1) (ys := [b]) (bs := [[]]) (news := [.int .u8 (b.toNat : Int)]) rfl rfl (so.up good_U uqb) (by simp; try exact nd) (Src.box (t := 5) Tryz.underlying132 kqb (by simp [Value.oneCell']) (by rw [hzc]; rfl)) (Rowed.one good_U hob) (by simp; omega) hx1b hx2b ?_
               intro Db db blb wb hapb
               obtain ⟨sob, ndb, memb, onb⟩ := hapb))
          go_roundw
          case rel => exact ⟨k + 1, Db, db, blb, by omega, by go_num, by rw [HS.out]; simp, by rw [HS.out]; exact sob, ndb, (hu.trans uqb).only onb (fun y hy => (so.in_ good_U y hy).1)⟩
          case measure => simp [intOf]; omega
      · obtain rfl : k = s.size := by omega
        have ht : s.data.toList.take s.size = s.data.toList := List.take_of_length_le (by omega)
        rw [ht] at so hel ⊢
        have hlen1 : (2 :: escL s.data.toList).length ≤ 2 * s.size + 1 := by rw [List.length_cons]; omega
        have HLL := Lib.hid hlen1
        have hk2 : bs (subKeyL s) = bs ((2 :: escL s.data.toList) ++ [0, 0]) := by rw [HK.out]; rfl
        have HK2 := Lib.hid hk2
        clear ht hel hlen1 hll hk2
        generalize 2 :: escL s.data.toList = L1 at *
        have kq := Bk.new wr 5 #[.int .u8 0, .int .u8 0]
        have uq := (Up.refl wr).alloc (.cells #[.int .u8 0, .int .u8 0] 5)
        have hlo := hu.size
        have hx1 : (L1.length + 2) * i0.bytes ≤ 140737488355328 := by rw [hz2]; have := HLL.out; omega
        have hx2 : L1.length + 2 ≤ maxLen := by unfold maxLen; have := HLL.out; omega
        have HCV := Lib.hid (fun (W : World) (g off d : Nat) (hby : Lib.Bytes W g off ⟨(L1 ++ [0, 0]).toArray⟩) => Lib.run_convert_whole (P := Tryz.prog) W 132 5 9 Tryz.underlying132 Tryz.underlying5 Tryz.underlying9 g off ⟨(L1 ++ [0, 0]).toArray⟩ hby d)
        go_wp2_with (first
          | (at_builtin
             refine wpList_app good_U rfl _ _ _ _ 5 rfl i0 _ Tryz.underlying132 hi0 hz0 hzc (by rfl) (lo := w.heap.size) (xs := L1) (ys := [0, 0]) (bs := [[], []]) (news := [.int .u8 0, .int .u8 0]) rfl rfl (so.up good_U uq) (by simp; try exact nd) (Src.box2 (t := 5) Tryz.underlying132 kq rfl rfl hzc) rowed_UU (by simp; omega) hx1 hx2 ?_
             intro D' d' bl' w2 hap
             obtain ⟨so2, nd2, mem2, on2⟩ := hap
             have hu2 := (hu.trans uq).only on2 (fun y hy => (so.in_ good_U y hy).1)
             obtain ⟨g, off, hA, hby⟩ := so2.bytes (by simp)
             have hcv := HCV.out w2 g off d' hby
             have hsz : (ByteArray.mk (L1 ++ [0, 0]).toArray).size = L1.length + 2 := by simp [ByteArray.size]
             rw [hsz] at hcv
             subst hA
             clear hby hsz))
        go_ret
        exact ⟨by rw [HK2.out]; first | done | rfl, hu2⟩
  · have hnb := numOf_le s
    obtain ⟨N, hN⟩ : ∃ N, N = (numOf s + 1000000000000000000).toNat := ⟨_, rfl⟩
    have hNi : numOf s + 1000000000000000000 = (N : Int) := by omega
    have hNb : N ≤ 1999999999999999999 := by omega
    have hk : subKeyL s = 1 :: beT N 8 := by unfold subKeyL; rw [if_pos hc, hN]
    have HK := Lib.hid hk
    have HNB := Lib.hid hNb
    obtain ⟨z, hz⟩ : ∃ z, z = numOf s + 1000000000000000000 := ⟨_, rfl⟩
    have hzN : z = (N : Int) := by omega
    have hz1 : 0 ≤ z := by omega
    have hz2' : z ≤ 1999999999999999999 := by omega
    have hw3 : numOf s + 1000000000000000000 = z := hz.symm
    have HZN := Lib.hid hzN
    obtain ⟨hnb1, hnb2⟩ := hnb
    clear hN hk hNb hNi hz hzN
    have so0 : SO shU (w.alloc (.cells #[] 5)) w.heap.size (w.alloc (.cells #[] 5)).heap.size (some ⟨w.heap.size, 0, none⟩) 0 ([] : List UInt8) [] := ⟨Nat.le_refl _, Nat.zero_le _, .inl ⟨rfl, rfl, rfl⟩⟩
    have uu0 : Up w (w.alloc (.cells #[] 5)) := (Up.refl w).alloc _
    have nd0 : ([] : List Nat).Nodup := by simp
    go_enter Tryz.func236, Tryz.ntmps236
    go_wp2_with fail
    refine (c_l01Canon s _ hsm).mono ?_
    rintro e w1 ⟨rfl, u1⟩
    rw [hc]
    have so1 := so0.up good_U u1
    have uu1 := uu0.trans u1
    go_wp2_with fail
    refine (c_l01Of s _ hsm).mono ?_
    rintro e w1 ⟨rfl, rfl⟩
    have kqa := Bk.new w1 5 #[.int .u8 1]
    have uqa := (Up.refl w1).alloc (.cells #[.int .u8 1] 5)
    have hoa : shU.own (w1.alloc (.cells #[.int .u8 1] 5)) w.heap.size (w1.alloc (.cells #[.int .u8 1] 5)).heap.size [.int .u8 1] 1 [] := ⟨rfl, rfl⟩
    have hloa := uu1.size
    have hx1a : ((([] : List UInt8)).length + 1) * i0.bytes ≤ 140737488355328 := by rw [hz2]; first | (simp; done) | (simp; omega)
    have hx2a : (([] : List UInt8)).length + 1 ≤ maxLen := by unfold maxLen; first | (simp; done) | (simp; omega)
    go_wp2_with (first
      | (at_builtin
         refine wpList_app good_U rfl _ _ _ _ 5 rfl i0 _ Tryz.underlying132 hi0 hz0 hzc (by rfl) (lo := w.heap.size) (xs := ([] : List UInt8)) (ys := [1]) (bs := [[]]) (news := [.int .u8 1]) rfl rfl (so1.up good_U uqa) (by simp; try exact nd0) (Src.box (t := 5) Tryz.underlying132 kqa (by simp [Value.oneCell']) (by rw [hzc]; rfl)) (Rowed.one good_U hoa) (by simp; omega) hx1a hx2a ?_
         intro Da da bla wa hapa
         obtain ⟨soa, nda, mema, ona⟩ := hapa))
    have ua := (uu1.trans uqa).only ona (fun y hy => absurd hy (by simp))
    have soa' : SO shU wa w.heap.size wa.heap.size Da da (1 :: beT N 0) bla := soa
    clear soa so1 so0 hoa hx1a hx2a kqa hloa
    go_loopw [5, 3] (fun k out wr => ∃ (m : Nat) (D : Option Addr) (d : Nat) (bl : List Nat), m ≤ 8 ∧ k = .int .i64 (7 - (m : Int)) ∧ out = .slice D (1 :: beT N m).length d ∧ SO shU wr w.heap.size wr.heap.size D d (1 :: beT N m) bl ∧ bl.Nodup ∧ Up w wr) (fun k _ _ => (intOf k + 1).toNat)
    case atStart => exact ⟨0, Da, da, bla, Nat.zero_le _, rfl, rfl, soa', nda, ua⟩
    case round =>
      obtain ⟨m, D, d, bl, hm, rfl, rfl, so, nd, hu⟩ := hrel
      by_cases hlt : m < 8
      · have hlen := beT_len N m
        have hst : beT N (m + 1) = beT N m ++ [UInt8.ofNat (N / 256 ^ (7 - m))] := rfl
        obtain ⟨q, hq⟩ : ∃ q, q = N / 256 ^ (7 - m) := ⟨_, rfl⟩
        have hqn : q ≤ 1999999999999999999 := by rw [hq]; exact Nat.le_trans (Nat.div_le_self _ _) HNB.out
        rw [← hq] at hst
        obtain ⟨b, hb⟩ : ∃ b, b = UInt8.ofNat q := ⟨_, rfl⟩
        rw [← hb] at hst
        have hcv : IntKind.u8.wrap (q : Int) = (b.toNat : Int) := by
          have : b.toNat = q % 256 := by rw [hb]; simp [UInt8.toNat_ofNat']
          rw [this]
          show ((q : Int) % 256) = _
          omega
        have hbl := b.toNat_lt
        have hbm : (b.toNat : Int) % 256 = (b.toNat : Int) := by omega
        have hqb : (q : Int) % 256 = (b.toNat : Int) := by rw [← hcv]; rfl
        have HS := Lib.hid hst
        have HB := Lib.hid hb
        have HL := Lib.hid hlen
        clear hst hb hlen
        have hm8 : m = 0 ∨ m = 1 ∨ m = 2 ∨ m = 3 ∨ m = 4 ∨ m = 5 ∨ m = 6 ∨ m = 7 := by omega
        rcases hm8 with rfl | rfl | rfl | rfl | rfl | rfl | rfl | rfl
        · have hdv : z / 72057594037927936 = (q : Int) := by
            rw [hq, HZN.out]
            show (N : Int) / 72057594037927936 = ((N / 72057594037927936 : Nat) : Int)
            omega
          clear hq hqn
          have kqb := Bk.new wr 5 #[.int .u8 (b.toNat : Int)]
          have uqb := (Up.refl wr).alloc (.cells #[.int .u8 (b.toNat : Int)] 5)
          have hob : shU.own (wr.alloc (.cells #[.int .u8 (b.toNat : Int)] 5)) w.heap.size (wr.alloc (.cells #[.int .u8 (b.toNat : Int)] 5)).heap.size [.int .u8 (b.toNat : Int)] b [] := ⟨rfl, rfl⟩
          have hlob := hu.size
          have hx1b : ((1 :: beT N 0).length + 1) * i0.bytes ≤ 140737488355328 := by rw [hz2]; first | (simp only [List.length_cons, HL.out]; omega)
          have hx2b : (1 :: beT N 0).length + 1 ≤ maxLen := by unfold maxLen; first | (simp only [List.length_cons, HL.out]; omega)
          go_wp2_with (first
            | (at_builtin
               refine wpList_app good_U rfl _ _ _ _ 5 rfl i0 _ Tryz.underlying132 hi0 hz0 hzc (by rfl) (lo := w.heap.size) (xs := 1 :: beT N 0) (ys := [b]) (bs := [[]]) (news := [.int .u8 (b.toNat : Int)]) rfl rfl (so.up good_U uqb) (by simp; try exact nd) (Src.box (t := 5) Tryz.underlying132 kqb (by simp [Value.oneCell']) (by rw [hzc]; rfl)) (Rowed.one good_U hob) (by simp; omega) hx1b hx2b ?_
               intro Db db blb wb hapb
               obtain ⟨sob, ndb, memb, onb⟩ := hapb))
          go_roundw
          case rel =>
            refine ⟨0 + 1, Db, db, blb, by omega, by first | rfl | (congr 1; omega), by rw [HS.out]; simp, ?_, ndb, (hu.trans uqb).only onb (fun y hy => (so.in_ good_U y hy).1)⟩
            rw [HS.out]
            exact sob
          case measure => simp [intOf]
        · have hdv : z / 281474976710656 = (q : Int) := by
            rw [hq, HZN.out]
            show (N : Int) / 281474976710656 = ((N / 281474976710656 : Nat) : Int)
            omega
          clear hq hqn
          have kqb := Bk.new wr 5 #[.int .u8 (b.toNat : Int)]
          have uqb := (Up.refl wr).alloc (.cells #[.int .u8 (b.toNat : Int)] 5)
          have hob : shU.own (wr.alloc (.cells #[.int .u8 (b.toNat : Int)] 5)) w.heap.size (wr.alloc (.cells #[.int .u8 (b.toNat : Int)] 5)).heap.size [.int .u8 (b.toNat : Int)] b [] := ⟨rfl, rfl⟩
          have hlob := hu.size
          have hx1b : ((1 :: beT N 1).length + 1) * i0.bytes ≤ 140737488355328 := by rw [hz2]; first | (simp only [List.length_cons, HL.out]; omega)
          have hx2b : (1 :: beT N 1).length + 1 ≤ maxLen := by unfold maxLen; first | (simp only [List.length_cons, HL.out]; omega)
          go_wp2_with (first
            | (at_builtin
               refine wpList_app good_U rfl _ _ _ _ 5 rfl i0 _ Tryz.underlying132 hi0 hz0 hzc (by rfl) (lo := w.heap.size) (xs := 1 :: beT N 1) (ys := [b]) (bs := [[]]) (news := [.int .u8 (b.toNat : Int)]) rfl rfl (so.up good_U uqb) (by simp; try exact nd) (Src.box (t := 5) Tryz.underlying132 kqb (by simp [Value.oneCell']) (by rw [hzc]; rfl)) (Rowed.one good_U hob) (by simp; omega) hx1b hx2b ?_
               intro Db db blb wb hapb
               obtain ⟨sob, ndb, memb, onb⟩ := hapb))
          go_roundw
          case rel =>
            refine ⟨1 + 1, Db, db, blb, by omega, by first | rfl | (congr 1; omega), by rw [HS.out]; simp, ?_, ndb, (hu.trans uqb).only onb (fun y hy => (so.in_ good_U y hy).1)⟩
            rw [HS.out]
            exact sob
          case measure => simp [intOf]
        · have hdv : z / 1099511627776 = (q : Int) := by
            rw [hq, HZN.out]
            show (N : Int) / 1099511627776 = ((N / 1099511627776 : Nat) : Int)
            omega
          clear hq hqn
          have kqb := Bk.new wr 5 #[.int .u8 (b.toNat : Int)]
          have uqb := (Up.refl wr).alloc (.cells #[.int .u8 (b.toNat : Int)] 5)
          have hob : shU.own (wr.alloc (.cells #[.int .u8 (b.toNat : Int)] 5)) w.heap.size (wr.alloc (.cells #[.int .u8 (b.toNat : Int)] 5)).heap.size [.int .u8 (b.toNat : Int)] b [] := ⟨rfl, rfl⟩
          have hlob := hu.size
          have hx1b : ((1 :: beT N 2).length + 1) * i0.bytes ≤ 140737488355328 := by rw [hz2]; first | (simp only [List.length_cons, HL.out]; omega)
          have hx2b : (1 :: beT N 2).length + 1 ≤ maxLen := by unfold maxLen; first | (simp only [List.length_cons, HL.out]; omega)
          go_wp2_with (first
            | (at_builtin
               refine wpList_app good_U rfl _ _ _ _ 5 rfl i0 _ Tryz.underlying132 hi0 hz0 hzc (by rfl) (lo := w.heap.size) (xs := 1 :: beT N 2) (ys := [b]) (bs := [[]]) (news := [.int .u8 (b.toNat : Int)]) rfl rfl (so.up good_U uqb) (by simp; try exact nd) (Src.box (t := 5) Tryz.underlying132 kqb (by simp [Value.oneCell']) (by rw [hzc]; rfl)) (Rowed.one good_U hob) (by simp; omega) hx1b hx2b ?_
               intro Db db blb wb hapb
               obtain ⟨sob, ndb, memb, onb⟩ := hapb))
          go_roundw
          case rel =>
            refine ⟨2 + 1, Db, db, blb, by omega, by first | rfl | (congr 1; omega), by rw [HS.out]; simp, ?_, ndb, (hu.trans uqb).only onb (fun y hy => (so.in_ good_U y hy).1)⟩
            rw [HS.out]
            exact sob
          case measure => simp [intOf]
        · have hdv : z / 4294967296 = (q : Int) := by
            rw [hq, HZN.out]
            show (N : Int) / 4294967296 = ((N / 4294967296 : Nat) : Int)
            omega
          clear hq hqn
          have kqb := Bk.new wr 5 #[.int .u8 (b.toNat : Int)]
          have uqb := (Up.refl wr).alloc (.cells #[.int .u8 (b.toNat : Int)] 5)
          have hob : shU.own (wr.alloc (.cells #[.int .u8 (b.toNat : Int)] 5)) w.heap.size (wr.alloc (.cells #[.int .u8 (b.toNat : Int)] 5)).heap.size [.int .u8 (b.toNat : Int)] b [] := ⟨rfl, rfl⟩
          have hlob := hu.size
          have hx1b : ((1 :: beT N 3).length + 1) * i0.bytes ≤ 140737488355328 := by rw [hz2]; first | (simp only [List.length_cons, HL.out]; omega)
          have hx2b : (1 :: beT N 3).length + 1 ≤ maxLen := by unfold maxLen; first | (simp only [List.length_cons, HL.out]; omega)
          go_wp2_with (first
            | (at_builtin
               refine wpList_app good_U rfl _ _ _ _ 5 rfl i0 _ Tryz.underlying132 hi0 hz0 hzc (by rfl) (lo := w.heap.size) (xs := 1 :: beT N 3) (ys := [b]) (bs := [[]]) (news := [.int .u8 (b.toNat : Int)]) rfl rfl (so.up good_U uqb) (by simp; try exact nd) (Src.box (t := 5) Tryz.underlying132 kqb (by simp [Value.oneCell']) (by rw [hzc]; rfl)) (Rowed.one good_U hob) (by simp; omega) hx1b hx2b ?_
               intro Db db blb wb hapb
               obtain ⟨sob, ndb, memb, onb⟩ := hapb))
          go_roundw
          case rel =>
            refine ⟨3 + 1, Db, db, blb, by omega, by first | rfl | (congr 1; omega), by rw [HS.out]; simp, ?_, ndb, (hu.trans uqb).only onb (fun y hy => (so.in_ good_U y hy).1)⟩
            rw [HS.out]
            exact sob
          case measure => simp [intOf]
        · have hdv : z / 16777216 = (q : Int) := by
            rw [hq, HZN.out]
            show (N : Int) / 16777216 = ((N / 16777216 : Nat) : Int)
            omega
          clear hq hqn
          have kqb := Bk.new wr 5 #[.int .u8 (b.toNat : Int)]
          have uqb := (Up.refl wr).alloc (.cells #[.int .u8 (b.toNat : Int)] 5)
          have hob : shU.own (wr.alloc (.cells #[.int .u8 (b.toNat : Int)] 5)) w.heap.size (wr.alloc (.cells #[.int .u8 (b.toNat : Int)] 5)).heap.size [.int .u8 (b.toNat : Int)] b [] := ⟨rfl, rfl⟩
          have hlob := hu.size
          have hx1b : ((1 :: beT N 4).length + 1) * i0.bytes ≤ 140737488355328 := by rw [hz2]; first | (simp only [List.length_cons, HL.out]; omega)
          have hx2b : (1 :: beT N 4).length + 1 ≤ maxLen := by unfold maxLen; first | (simp only [List.length_cons, HL.out]; omega)
          go_wp2_with (first
            | (at_builtin
               refine wpList_app good_U rfl _ _ _ _ 5 rfl i0 _ Tryz.underlying132 hi0 hz0 hzc (by rfl) (lo := w.heap.size) (xs := 1 :: beT N 4) (ys := [b]) (bs := [[]]) (news := [.int .u8 (b.toNat : Int)]) rfl rfl (so.up good_U uqb) (by simp; try exact nd) (Src.box (t := 5) Tryz.underlying132 kqb (by simp [Value.oneCell']) (by rw [hzc]; rfl)) (Rowed.one good_U hob) (by simp; omega) hx1b hx2b ?_
               intro Db db blb wb hapb
               obtain ⟨sob, ndb, memb, onb⟩ := hapb))
          go_roundw
          case rel =>
            refine ⟨4 + 1, Db, db, blb, by omega, by first | rfl | (congr 1; omega), by rw [HS.out]; simp, ?_, ndb, (hu.trans uqb).only onb (fun y hy => (so.in_ good_U y hy).1)⟩
            rw [HS.out]
            exact sob
          case measure => simp [intOf]
        · have hdv : z / 65536 = (q : Int) := by
            rw [hq, HZN.out]
            show (N : Int) / 65536 = ((N / 65536 : Nat) : Int)
            omega
          clear hq hqn
          have kqb := Bk.new wr 5 #[.int .u8 (b.toNat : Int)]
          have uqb := (Up.refl wr).alloc (.cells #[.int .u8 (b.toNat : Int)] 5)
          have hob : shU.own (wr.alloc (.cells #[.int .u8 (b.toNat : Int)] 5)) w.heap.size (wr.alloc (.cells #[.int .u8 (b.toNat : Int)] 5)).heap.size [.int .u8 (b.toNat : Int)] b [] := ⟨rfl, rfl⟩
          have hlob := hu.size
          have hx1b : ((1 :: beT N 5).length + 1) * i0.bytes ≤ 140737488355328 := by rw [hz2]; first | (simp only [List.length_cons, HL.out]; omega)
          have hx2b : (1 :: beT N 5).length + 1 ≤ maxLen := by unfold maxLen; first | (simp only [List.length_cons, HL.out]; omega)
          go_wp2_with (first
            | (at_builtin
               refine wpList_app good_U rfl _ _ _ _ 5 rfl i0 _ Tryz.underlying132 hi0 hz0 hzc (by rfl) (lo := w.heap.size) (xs := 1 :: beT N 5) (ys := [b]) (bs := [[]]) (news := [.int .u8 (b.toNat : Int)]) rfl rfl (so.up good_U uqb) (by simp; try exact nd) (Src.box (t := 5) Tryz.underlying132 kqb (by simp [Value.oneCell']) (by rw [hzc]; rfl)) (Rowed.one good_U hob) (by simp; omega) hx1b hx2b ?_
               intro Db db blb wb hapb
               obtain ⟨sob, ndb, memb, onb⟩ := hapb))
          go_roundw
          case rel =>
            refine ⟨5 + 1, Db, db, blb, by omega, by first | rfl | (congr 1; omega), by rw [HS.out]; simp, ?_, ndb, (hu.trans uqb).only onb (fun y hy => (so.in_ good_U y hy).1)⟩
            rw [HS.out]
            exact sob
          case measure => simp [intOf]
        · have hdv : z / 256 = (q : Int) := by
            rw [hq, HZN.out]
            show (N : Int) / 256 = ((N / 256 : Nat) : Int)
            omega
          clear hq hqn
          have kqb := Bk.new wr 5 #[.int .u8 (b.toNat : Int)]
          have uqb := (Up.refl wr).alloc (.cells #[.int .u8 (b.toNat : Int)] 5)
          have hob : shU.own (wr.alloc (.cells #[.int .u8 (b.toNat : Int)] 5)) w.heap.size (wr.alloc (.cells #[.int .u8 (b.toNat : Int)] 5)).heap.size [.int .u8 (b.toNat : Int)] b [] := ⟨rfl, rfl⟩
          have hlob := hu.size
          have hx1b : ((1 :: beT N 6).length + 1) * i0.bytes ≤ 140737488355328 := by rw [hz2]; first | (simp only [List.length_cons, HL.out]; omega)
          have hx2b : (1 :: beT N 6).length + 1 ≤ maxLen := by unfold maxLen; first | (simp only [List.length_cons, HL.out]; omega)
          go_wp2_with (first
            | (at_builtin
               refine wpList_app good_U rfl _ _ _ _ 5 rfl i0 _ Tryz.underlying132 hi0 hz0 hzc (by rfl) (lo := w.heap.size) (xs := 1 :: beT N 6) (ys := [b]) (bs := [[]]) (news := [.int .u8 (b.toNat : Int)]) rfl rfl (so.up good_U uqb) (by simp; try exact nd) (Src.box (t := 5) Tryz.underlying132 kqb (by simp [Value.oneCell']) (by rw [hzc]; rfl)) (Rowed.one good_U hob) (by simp; omega) hx1b hx2b ?_
               intro Db db blb wb hapb
               obtain ⟨sob, ndb, memb, onb⟩ := hapb))
          go_roundw
          case rel =>
            refine ⟨6 + 1, Db, db, blb, by omega, by first | rfl | (congr 1; omega), by rw [HS.out]; simp, ?_, ndb, (hu.trans uqb).only onb (fun y hy => (so.in_ good_U y hy).1)⟩
            rw [HS.out]
            exact sob
          case measure => simp [intOf]
        · have hdv : z % 256 = (b.toNat : Int) := by
            rw [← hqb, hq, HZN.out]
            show (N : Int) % 256 = ((N / 1 : Nat) : Int) % 256
            rw [Nat.div_one]
          clear hq hqn
          have kqb := Bk.new wr 5 #[.int .u8 (b.toNat : Int)]
          have uqb := (Up.refl wr).alloc (.cells #[.int .u8 (b.toNat : Int)] 5)
          have hob : shU.own (wr.alloc (.cells #[.int .u8 (b.toNat : Int)] 5)) w.heap.size (wr.alloc (.cells #[.int .u8 (b.toNat : Int)] 5)).heap.size [.int .u8 (b.toNat : Int)] b [] := ⟨rfl, rfl⟩
          have hlob := hu.size
          have hx1b : ((1 :: beT N 7).length + 1) * i0.bytes ≤ 140737488355328 := by rw [hz2]; first | (simp only [List.length_cons, HL.out]; omega)
          have hx2b : (1 :: beT N 7).length + 1 ≤ maxLen := by unfold maxLen; first | (simp only [List.length_cons, HL.out]; omega)
          go_wp2_with (first
            | (at_builtin
               refine wpList_app good_U rfl _ _ _ _ 5 rfl i0 _ Tryz.underlying132 hi0 hz0 hzc (by rfl) (lo := w.heap.size) (xs := 1 :: beT N 7) (ys := [b]) (bs := [[]]) (news := [.int .u8 (b.toNat : Int)]) rfl rfl (so.up good_U uqb) (by simp; try exact nd) (Src.box (t := 5) Tryz.underlying132 kqb (by simp [Value.oneCell']) (by rw [hzc]; rfl)) (Rowed.one good_U hob) (by simp; omega) hx1b hx2b ?_
               intro Db db blb wb hapb
               obtain ⟨sob, ndb, memb, onb⟩ := hapb))
          go_roundw
          case rel =>
            refine ⟨7 + 1, Db, db, blb, by omega, by first | rfl | (congr 1; omega), by rw [HS.out]; simp, ?_, ndb, (hu.trans uqb).only onb (fun y hy => (so.in_ good_U y hy).1)⟩
            rw [HS.out]
            exact sob
          case measure => simp [intOf]
      · obtain rfl : m = 8 := by omega
        have hlen := beT_len N 8
        obtain ⟨g, off, rfl, hby⟩ := so.bytes (by simp)
        have hcv := Lib.run_convert_whole (P := Tryz.prog) wr 132 5 9 Tryz.underlying132 Tryz.underlying5 Tryz.underlying9 g off ⟨(1 :: beT N 8).toArray⟩ hby d
        have hsz : (ByteArray.mk (1 :: beT N 8).toArray).size = (1 :: beT N 8).length := by simp [ByteArray.size]
        rw [hsz] at hcv
        have HL := Lib.hid hlen
        clear hby hsz hlen
        generalize 1 :: beT N 8 = LL at *
        go_wp2_with fail
        go_ret
        exact ⟨by rw [HK.out]; first | done | rfl, hu⟩
end Go.Proofs.YtfehlcbaalbajaaGreatDoor
