/-
  The program's decoder of subscripts: getNumber, getString, GetSubs.
  TreeOk: both sides' contracts.
  GetNode: where a node stands; the program's side.
  The changes of a tree, in plain Lean: put, kill, drop; a right tree stays right.
-/
import Derived.Test.YtehhgogmbpdpbaaGreatDoorM1C
import Derived.Test.YtehhgogmbpdpbaaGreatDoorM1E
import Derived.BigQuiet
import Derived.Deep.QuietTactic
namespace Go.Proofs.YtehhgogmbpdpbaaGreatDoor
open Go.RowKit
set_option linter.unusedVariables false
set_option linter.unusedSimpArgs false

theorem Up.trans' {a b c : World} (h : Up a b) (k : Below a.heap.size b c) : Up a c := Below.trans h k
theorem c_NumText_out (n : Int) (w : World) (h : ¬ n.natAbs ≤ 999999999999999999) : Calls Tryz.prog 236 #[.int .i64 n] w (RetV (.string ⟨#[]⟩) w) := by
  have hb : inB n (-999999999999999999) 999999999999999999 = false := inB_f.2 (by omega)
  have ci : ∀ w, Calls Tryz.prog 263 #[.int .i64 n] w fun e w' => e = .returned (.bool false) ∧ w = w' := fun w => by
    go_enter Tryz.func263, Tryz.ntmps263
    go_wp2_with fail
    refine (within_any _ _ _ _).mono ?_
    rintro e w' ⟨rfl, rfl⟩
    rw [hb]
    go_wp2_with fail
    go_ret
    exact ⟨rfl, rfl⟩
  go_enter Tryz.func236, Tryz.ntmps236
  go_wp2_with fail
  refine (ci _).mono ?_
  rintro e w' ⟨rfl, rfl⟩
  go_wp2_with fail
  go_ret
  exact ⟨rfl, Up.refl _⟩
theorem c_NumTx (n : Int) (w : World) (htab : Tab w) : Calls Tryz.prog 236 #[.int .i64 n] w (RetV (.string (numTx n)) w) := by
  unfold numTx
  by_cases h : n.natAbs ≤ 999999999999999999
  · rw [if_pos h]; exact c_NumText n w h htab
  · rw [if_neg h]; exact c_NumText_out n w h
def numV (l : List UInt8) : Value := takeV (takeNum 0 2000000000000000000 l)
set_option maxRecDepth 100000 in
set_option maxHeartbeats 4000000 in
theorem c_getNumber (s : ByteArray) (w : World) (hs : s.size ≤ 1048576) (htab : Tab w) : Calls Tryz.prog 197 #[.string s] w (RetV (numV s.data.toList) w) := by
  have hll := slen s
  obtain ⟨R, hR⟩ : ∃ R, R = numV s.data.toList := ⟨_, rfl⟩
  rw [← hR]
  by_cases h8 : 8 ≤ s.size
  · have hle : 8 ≤ s.data.toList.length := by omega
    have hd : s.extract 8 s.size = bs (s.data.toList.drop 8) := by rw [ext_bs, List.take_of_length_le (by omega)]
    have HD := Lib.hid hd
    have HB := Lib.hid (fun k (h : k < s.size) => beV_take s h)
    have hlt : ∀ k, k < 8 → beV (s.data.toList.take k) < 72057594037927936 := fun k hk => by
      have := beV_lt (s.data.toList.take k)
      rw [List.length_take, Nat.min_eq_left (by omega)] at this
      have h2 : (256 : Nat) ^ k ≤ 256 ^ 7 := Nat.pow_le_pow_right (by omega) (by omega)
      have h3 : (256 : Nat) ^ 7 = 72057594037927936 := rfl
      omega
    have hVl : beV (s.data.toList.take 8) < 18446744073709551616 := by
      have := beV_lt (s.data.toList.take 8)
      rw [List.length_take, Nat.min_eq_left hle] at this
      exact this
    have HL := Lib.hid hlt
    have HV := Lib.hid hVl
    have HR : Hid ((beV (s.data.toList.take 8) ≤ 2000000000000000000 → R = .tuple #[.string (numTx ((beV (s.data.toList.take 8) : Int) - 1000000000000000000)), .string (s.extract 8 s.size), .bool true]) ∧ (¬ beV (s.data.toList.take 8) ≤ 2000000000000000000 → R = .tuple #[.string ⟨#[]⟩, .string ⟨#[]⟩, .bool false])) := by
      refine ⟨fun hb => ?_, fun hb => ?_⟩
      · rw [hR, numV, takeNum, if_pos ⟨hle, Nat.zero_le _, hb⟩, hd]; rfl
      · rw [hR, numV, takeNum, if_neg (fun hh => hb hh.2.2)]; rfl
    clear hlt hd hR hVl
    have h8i : ¬ ((s.size : Int) < 8) := by omega
    go_enter Tryz.func197, Tryz.ntmps197
    go_wp2_with fail
    go_loopw [10, 5] (fun i n wr => ∃ k : Nat, k ≤ 8 ∧ i = .int .i64 k ∧ n = .int .u64 ((beV (s.data.toList.take k) : Nat) : Int) ∧ Up w wr) (fun i _ _ => 8 - (intOf i).toNat)
    case atStart => exact ⟨0, Nat.zero_le _, rfl, by simp [beV], Up.refl _⟩
    case round =>
      obtain ⟨k, hk, rfl, rfl, hu⟩ := hrel
      by_cases hlt : k < 8
      · have hks : k < s.size := by omega
        have HB2 := Lib.hid (HB.out k hks)
        have hv7 := HL.out k hlt
        have hc := s[k].toNat_lt
        generalize beV (s.data.toList.take k) = V at *
        go_wp2_with fail
        go_roundw
        case rel => exact ⟨k + 1, by omega, by go_num, by rw [HB2.out]; congr 1, hu⟩
        case measure => simp [intOf]; omega
      · obtain rfl : k = 8 := by omega
        have hv := HV.out
        have ct := fun W (hW : Up w W) => c_NumTx ((beV (s.data.toList.take 8) : Int) - 1000000000000000000) W (tab_up htab hW)
        have CT := Lib.hid ct
        clear ct HB HL HV
        generalize beV (s.data.toList.take 8) = V at *
        by_cases hb : V ≤ 2000000000000000000
        · have hw1 : wrap64 (V : Int) = (V : Int) := by unfold wrap64; omega
          have hbi : ¬ ((2000000000000000000 : Int) < (V : Int)) := by omega
          have HRR := Lib.hid (HR.out.1 hb)
          clear HR
          go_wp2_with fail
          refine wp_region_up (by kernel_rfl) (by kernel_rfl) ?_
          repeat (go_big_quiet_step ((go_at_call 236; exact up_call (CT.out _ (hu.trans (UpT.up _))) (UpT.up _))))
          refine wpQuiet_nil ?_
          rintro w4 ⟨⟨w4', u4⟩, rfl⟩
          go_wp2_with fail
          refine bodyPost_ret (v := .tuple #[.string (numTx ((V : Int) - 1000000000000000000)), .string (s.extract 8 s.size), .bool true]) (by simp [results, Tryz.results197, go_sem]) rfl ?_
          exact ⟨by rw [HRR.out], hu.trans u4⟩
        · have hbi : (2000000000000000000 : Int) < (V : Int) := by omega
          have HRR := Lib.hid (HR.out.2 hb)
          clear HR
          go_wp2_with fail
          refine bodyPost_ret (v := .tuple #[.string ⟨#[]⟩, .string ⟨#[]⟩, .bool false]) (by simp [results, Tryz.results197, go_sem]) rfl ?_
          exact ⟨by rw [HRR.out], hu⟩
  · have h8i : (s.size : Int) < 8 := by omega
    have HRR : Hid (R = .tuple #[.string ⟨#[]⟩, .string ⟨#[]⟩, .bool false]) := by
      unfold Hid
      rw [hR, numV, takeNum, if_neg (fun hh => h8 (by have := hh.1; omega))]; rfl
    clear hR
    go_enter Tryz.func197, Tryz.ntmps197
    go_wp2_with fail
    go_ret3
    exact ⟨by rw [HRR.out]; rfl, Up.refl _⟩
/-- Worlds behind w in which the builder at B holds O. -/
structure BldT (w : World) (O : List UInt8) where
  val : World
  up : Up w val
  bl : Bld8 w.heap.size w.heap.size O val
theorem wp_region_bld {P : Program} {id : Nat} {Q : Exit → Act → World → Prop} {a : Act} {w wr : World} {O : List UInt8} {l : List Oper} (hu : Up w wr) (hb : Bld8 w.heap.size w.heap.size O wr) (hm : P.follows .mixedOrders = true) (hB : Region.lexB .any l.toArray = true)
    (h : wpQuiet P l.toArray (fun W => ∃ t : BldT w O, W = t.val) (fun a' => ∀ w', (∃ t : BldT w O, w' = t.val) → Q .normal a' w') l a) : (Code.region id l.toArray true).wp P Q a wr :=
  wp_region_quiet (C := fun W => ∃ t : BldT w O, W = t.val) hm hB ⟨⟨_, hu.drew, bld_up hb (Up.refl wr).drew⟩, rfl⟩ (by simpa using h)
theorem c_BStringT (w : World) (O : List UInt8) (t : BldT w O) :
    Calls Tryz.prog 238 #[.pointer (some ⟨w.heap.size, 0, none⟩)] t.val fun e w' => e = .returned (.string ⟨O.toArray⟩) ∧ ∃ t : BldT w O, w' = t.val :=
  (Go.Proofs.Any.Builder_String_any_k bl169 bex w.heap.size w.heap.size O t.val t.bl t.up.size).mono fun e w' ⟨he, hb, hk, _⟩ => ⟨he, ⟨w', t.up.trans' hk, hb⟩, rfl⟩
def strV (l : List UInt8) : Value := takeV ((decS l).map fun p => (bs p.1, p.2))
set_option maxRecDepth 100000 in
set_option maxHeartbeats 8000000 in
theorem c_getString (s : ByteArray) (w : World) (hs : s.size ≤ 1048576) : Calls Tryz.prog 198 #[.string s] w (RetV (strV s.data.toList) w) := by
  obtain ⟨R, hR⟩ : ∃ R, R = strV s.data.toList := ⟨_, rfl⟩
  rw [← hR]
  have HN : Hid (decS s.data.toList = none → R = .tuple #[.string ⟨#[]⟩, .string ⟨#[]⟩, .bool false]) := Lib.hid fun h => by rw [hR, strV, h]; rfl
  have HY : Hid (∀ t r, decS s.data.toList = some (t, r) → R = .tuple #[.string (bs t), .string (bs r), .bool true]) := Lib.hid fun t r h => by rw [hR, strV, h]; rfl
  clear hR
  have kb := Bk.new w 262 #[.pointer none, .slice none 0 0]
  have b0 : Bld8 w.heap.size w.heap.size [] (w.alloc (.cells #[.pointer none, .slice none 0 0] 262)) := bld_new _ _ kb
  have uu0 : Up w (w.alloc (.cells #[.pointer none, .slice none 0 0] 262)) := (Up.refl w).alloc _
  go_enter Tryz.func198, Tryz.ntmps198
  go_wp2_with fail
  go_loopw [6] (fun i wr => ∃ (k : Nat) (O : List UInt8), k ≤ s.size ∧ i = .int .i64 k ∧ O.length ≤ k ∧ Hid (decS s.data.toList = ahead O (decS (s.data.toList.drop k))) ∧ Bld8 w.heap.size w.heap.size O wr ∧ Up w wr) (fun i _ => s.size - (intOf i).toNat)
  case atStart => exact ⟨0, [], Nat.zero_le _, rfl, by simp, Lib.hid (by rw [ahead_nil]; simp), b0, uu0⟩
  case round =>
    obtain ⟨k, O, hk, rfl, hOk, HE, bO, hu⟩ := hrel
    have zw := hu.size
    by_cases hlt : k + 1 < s.size
    · have hk0 : k < s.size := by omega
      by_cases hz : s[k] = 0
      · have bz : (s[k].toNat : Int) = 0 := u8_yb 0 rfl hz
        by_cases hy : s[k + 1] = 0
        · have bY : (s[k + 1].toNat : Int) = 0 := u8_yb 0 rfl hy
          have he : decS s.data.toList = some (O, s.data.toList.drop (k + 2)) := by
            rw [HE.out, decS_00 s hlt hz hy]; simp [ahead]
          have hd : s.extract (k + 2) s.size = bs (s.data.toList.drop (k + 2)) := by rw [ext_bs, List.take_of_length_le (by rw [slen]; exact Nat.le_refl _)]
          have HRR := Lib.hid (HY.out _ _ he)
          have HD := Lib.hid hd
          have h2i : (k : Int) + 2 ≤ (s.size : Int) := by omega
          have h2n : 0 ≤ (k : Int) + 2 := by omega
          have h2t : ((k : Int) + 2).toNat = k + 2 := by omega
          clear he hd HE HN HY
          go_wp2_with fail
          haveI : Nonempty (BldT w O) := ⟨⟨wr, hu, bO⟩⟩
          refine wp_region_bld hu bO (by kernel_rfl) (by kernel_rfl) ?_
          repeat (go_big_quiet_step ((go_at_call 238; exact c_BStringT _ _ _)))
          refine wpQuiet_nil ?_
          rintro w4 ⟨⟨w4', u4, b4⟩, rfl⟩
          go_wp2_with fail
          refine bodyPost_ret (v := .tuple #[.string (bs O), .string (s.extract (k + 2) s.size), .bool true]) (by simp [results, Tryz.results198, go_sem, bs]) rfl ?_
          exact ⟨by rw [HRR.out, HD.out], u4⟩
        · by_cases hf : s[k + 1] = 255
          · have bF : (s[k + 1].toNat : Int) = 255 := u8_yb 255 rfl hf
            have nY := u8_nn 0 rfl hy
            have bY := u8_nb 0 rfl hy
            have HS := Lib.hid (show decS s.data.toList = ahead (O ++ [0]) (decS (s.data.toList.drop (k + 2))) by rw [HE.out, decS_ff s hlt hz hf, ahead_map])
            clear HE hz hf hy
            go_wp2_with fail
            refine (c_WriteByte _ _ O 0 _ bO (by omega) zw).mono ?_
            rintro e w1 ⟨rfl, b1, k1, _⟩
            go_wp2_with fail
            go_roundw
            case rel => exact ⟨k + 2, O ++ [0], by omega, by go_num, by simp; omega, HS, b1, hu.trans' k1⟩
            case measure => simp [intOf]; omega
          · have nY := u8_nn 0 rfl hy
            have bY := u8_nb 0 rfl hy
            have nF := u8_nn 255 rfl hf
            have bF := u8_nb 255 rfl hf
            have BF := u8_nB 255 rfl hf
            have HRR := Lib.hid (HN.out (show decS s.data.toList = none by rw [HE.out, decS_bad s hlt hz hy hf]; rfl))
            clear HE HN HY
            go_wp2_with fail
            refine bodyPost_ret (v := .tuple #[.string ⟨#[]⟩, .string ⟨#[]⟩, .bool false]) (by simp [results, Tryz.results198, go_sem]) rfl ?_
            exact ⟨by rw [HRR.out], hu⟩
      · have nz := u8_nn 0 rfl hz
        have bz := u8_nb 0 rfl hz
        have Bz := u8_nB 0 rfl hz
        have HS := Lib.hid (show decS s.data.toList = ahead (O ++ [s[k]]) (decS (s.data.toList.drop (k + 1))) by rw [HE.out, decS_ne s hlt hz, ahead_map])
        clear HE hz
        go_wp2_with fail
        refine (c_WriteByte _ _ O s[k] _ bO (by omega) zw).mono ?_
        rintro e w1 ⟨rfl, b1, k1, _⟩
        go_wp2_with fail
        go_roundw
        case rel => exact ⟨k + 1, O ++ [s[k]], by omega, by go_num, by simp; omega, HS, b1, hu.trans' k1⟩
        case measure => simp [intOf]; omega
    · have HRR := Lib.hid (HN.out (show decS s.data.toList = none by rw [HE.out, decS_end s hlt]; rfl))
      clear HE HN HY
      go_wp2_with fail
      refine bodyPost_ret (v := .tuple #[.string ⟨#[]⟩, .string ⟨#[]⟩, .bool false]) (by simp [results, Tryz.results198, go_sem]) rfl ?_
      exact ⟨by rw [HRR.out], hu⟩
def subsI (s : List UInt8) : Option (List ByteArray) := getSubs 0 2000000000000000000 false s
theorem subsI_eq (s : List UInt8) : subsI s = subsOf s := getSubs_eq _ _ _ _ _ _ (by omega) (by omega) (by omega) (by omega) s
theorem putS_of {l : List ByteArray} (h : subsB l = true) : putSubsL l = l.flatMap subKeyL := by unfold putSubsL; rw [if_pos h]
/-- What the program's GetSubs gives: a row of its own. -/
def GsO (r : Option (List ByteArray)) (w : World) (e : Ending) (w' : World) : Prop :=
  Up w w' ∧ ∃ A c, match r with
    | some l => e = .returned (.tuple #[.slice A l.length c, .bool true]) ∧ ∃ bl, SO shS w' w.heap.size w'.heap.size A c l bl ∧ bl.Nodup
    | none => e = .returned (.tuple #[.slice A 0 c, .bool false]) ∧ SRW shS w' A c []
theorem GsO.rd {r : Option (List ByteArray)} {w w' : World} {e : Ending} (h : GsO r w e w') : GsP r w e w' := by
  obtain ⟨u, A, c, h⟩ := h
  cases r with
  | none => exact ⟨u, A, c, h⟩
  | some l =>
    obtain ⟨h1, bl, h2, _⟩ := h
    exact ⟨u, A, c, h1, SR.of_own good_S h2⟩
set_option maxRecDepth 100000 in
set_option maxHeartbeats 8000000 in
theorem c_GetSubsO (s : ByteArray) (w : World) (hs : s.size ≤ 1048576) (htab : Tab w) (hm : MaxL w) : Calls Tryz.prog 160 #[.string s] w (GsO (subsOf s.data.toList) w) := by
  rw [← subsI_eq]
  obtain ⟨i0, hi0, hz0, hzc, hz2⟩ := info_parts cinfo_StrG
  have hll := slen s
  have so0 : SO shS (w.alloc (.cells #[] 9)) w.heap.size (w.alloc (.cells #[] 9)).heap.size (some ⟨w.heap.size, 0, none⟩) 0 ([] : List ByteArray) [] := ⟨Nat.le_refl _, Nat.zero_le _, .inl ⟨rfl, rfl, rfl⟩⟩
  have uu0 : Up w (w.alloc (.cells #[] 9)) := (Up.refl w).alloc _
  go_enter Tryz.func160, Tryz.ntmps160
  go_wp2_with fail
  go_loopw [5, 4] (fun lf out wr => ∃ (L : List UInt8) (O : List ByteArray) (D : Option Addr) (d : Nat) (bl : List Nat), lf = .string (bs L) ∧ out = .slice D O.length d ∧ O.length ≤ 5 ∧ L.length ≤ s.size ∧ Hid (decK 0 2000000000000000000 5 [] s.data.toList = decK 0 2000000000000000000 (5 - O.length) O L) ∧ SO shS wr w.heap.size wr.heap.size D d O bl ∧ bl.Nodup ∧ Up w wr) (fun lf _ _ => strSz lf)
  case atStart => exact ⟨s.data.toList, [], some ⟨w.heap.size, 0, none⟩, 0, [], rfl, rfl, by simp, by omega, Lib.hid rfl, so0, by simp, uu0⟩
  case round =>
    obtain ⟨L, O, D, d, bl, rfl, rfl, hO, hL, HK, so, nd, hu⟩ := hrel
    by_cases hex : L = [] ∨ ¬ O.length ≤ 4
    · have hd : decK 0 2000000000000000000 5 [] s.data.toList = some (O, L) := by
        rw [HK.out]
        rcases hex with rfl | h5
        · obtain h5 | ⟨m, hm⟩ : 5 - O.length = 0 ∨ ∃ m, 5 - O.length = m + 1 := by
            rcases Nat.eq_zero_or_pos (5 - O.length) with h | h
            · exact .inl h
            · exact .inr ⟨5 - O.length - 1, by omega⟩
          · rw [h5]; rfl
          · rw [hm]; rfl
        · have h5' : 5 - O.length = 0 := by omega
          rw [h5']; rfl
      have HD := Lib.hid hd
      have hgo : (!(bs L).toList.isEmpty && decide ((O.length : Int) ≤ 4)) = false := by
        rcases hex with rfl | h5
        · rw [bs_nil_isEmpty]; rfl
        · rw [decide_eq_false (by omega)]; simp
      have HX := Lib.hid hex
      clear hd HK
      have cso := fun W (u : Up wr W) => c_SubsOk O D d W ((SR.of_own good_S so).up good_S u)
      have cps := fun W (u : Up wr W) => c_PutSubs O D d W ((SR.of_own good_S so).up good_S u) (tab_up htab (hu.trans u)) (maxL_up hm (hu.trans u))
      have CSO := Lib.hid cso
      have CPS := Lib.hid cps
      clear cso cps
      rcases HX.out with hn | h5
      · have hnl : (bs L).toList.isEmpty = true := by rw [hn, bs_nil_isEmpty]
        clear hn hgo HX
        generalize bs L = SL at *
        by_cases hsb : subsB O = true
        · have hput := putS_of hsb
          have hbe := str_beq (bs (putSubsL O)) s
          by_cases hq : O.flatMap subKeyL = s.data.toList
          · have HE : Hid (subsI s.data.toList = some O) := by
              unfold Hid subsI getSubs
              rw [HD.out]
              unfold subsOut
              exact if_pos ⟨fun hh => absurd hh (by decide), hsb, hq⟩
            rw [decide_eq_true (by rw [hput, hq]; rfl)] at hbe
            clear hq hput
            generalize bs (putSubsL O) = T at *
            go_wp2_with fail
            refine (CSO.out _ (Up.refl _)).mono ?_
            rintro e w1 ⟨rfl, u1⟩
            rw [hsb]
            go_wp2_with fail
            refine (CPS.out _ u1).mono ?_
            rintro e w2 ⟨rfl, u2⟩
            go_wp2_with fail
            go_ret2
            rw [HE.out]
            exact ⟨(hu.trans u1).trans u2, _, _, rfl, _, (so.up good_S u1).up good_S u2, nd⟩
          · have HE : Hid (subsI s.data.toList = none) := by
              unfold Hid subsI getSubs
              rw [HD.out]
              unfold subsOut
              exact if_neg (fun hh => hq hh.2.2)
            rw [decide_eq_false (fun hh => hq (by have := congrArg (fun x : ByteArray => x.data.toList) hh; rw [hput] at this; simpa [bs] using this))] at hbe
            clear hq hput
            generalize bs (putSubsL O) = T at *
            go_wp2_with fail
            refine (CSO.out _ (Up.refl _)).mono ?_
            rintro e w1 ⟨rfl, u1⟩
            rw [hsb]
            go_wp2_with fail
            refine (CPS.out _ u1).mono ?_
            rintro e w2 ⟨rfl, u2⟩
            go_wp2_with fail
            go_ret2
            rw [HE.out]
            exact ⟨(hu.trans u1).trans u2, _, _, rfl, SR.nilA _ _ _ _⟩
        · have HE : Hid (subsI s.data.toList = none) := by
            unfold Hid subsI getSubs
            rw [HD.out]
            unfold subsOut
            exact if_neg (fun hh => hsb hh.2.1)
          have hsb' : subsB O = false := by simpa using hsb
          go_wp2_with fail
          refine (CSO.out _ (Up.refl _)).mono ?_
          rintro e w1 ⟨rfl, u1⟩
          rw [hsb']
          go_wp2_with fail
          go_ret2
          rw [HE.out]
          exact ⟨hu.trans u1, _, _, rfl, SR.nilA _ _ _ _⟩
      · have h5i : ¬ ((O.length : Int) ≤ 4) := by omega
        clear hgo HX
        cases hnl : (bs L).toList.isEmpty
        · generalize bs L = SL at *
          by_cases hsb : subsB O = true
          · have hput := putS_of hsb
            have hbe := str_beq (bs (putSubsL O)) s
            by_cases hq : O.flatMap subKeyL = s.data.toList
            · have HE : Hid (subsI s.data.toList = some O) := by
                unfold Hid subsI getSubs
                rw [HD.out]
                unfold subsOut
                exact if_pos ⟨fun hh => absurd hh (by decide), hsb, hq⟩
              rw [decide_eq_true (by rw [hput, hq]; rfl)] at hbe
              clear hq hput
              generalize bs (putSubsL O) = T at *
              go_wp2_with fail
              refine (CSO.out _ (Up.refl _)).mono ?_
              rintro e w1 ⟨rfl, u1⟩
              rw [hsb]
              go_wp2_with fail
              refine (CPS.out _ u1).mono ?_
              rintro e w2 ⟨rfl, u2⟩
              go_wp2_with fail
              go_ret2
              rw [HE.out]
              exact ⟨(hu.trans u1).trans u2, _, _, rfl, _, (so.up good_S u1).up good_S u2, nd⟩
            · have HE : Hid (subsI s.data.toList = none) := by
                unfold Hid subsI getSubs
                rw [HD.out]
                unfold subsOut
                exact if_neg (fun hh => hq hh.2.2)
              rw [decide_eq_false (fun hh => hq (by have := congrArg (fun x : ByteArray => x.data.toList) hh; rw [hput] at this; simpa [bs] using this))] at hbe
              clear hq hput
              generalize bs (putSubsL O) = T at *
              go_wp2_with fail
              refine (CSO.out _ (Up.refl _)).mono ?_
              rintro e w1 ⟨rfl, u1⟩
              rw [hsb]
              go_wp2_with fail
              refine (CPS.out _ u1).mono ?_
              rintro e w2 ⟨rfl, u2⟩
              go_wp2_with fail
              go_ret2
              rw [HE.out]
              exact ⟨(hu.trans u1).trans u2, _, _, rfl, SR.nilA _ _ _ _⟩
          · have HE : Hid (subsI s.data.toList = none) := by
              unfold Hid subsI getSubs
              rw [HD.out]
              unfold subsOut
              exact if_neg (fun hh => hsb hh.2.1)
            have hsb' : subsB O = false := by simpa using hsb
            go_wp2_with fail
            refine (CSO.out _ (Up.refl _)).mono ?_
            rintro e w1 ⟨rfl, u1⟩
            rw [hsb']
            go_wp2_with fail
            go_ret2
            rw [HE.out]
            exact ⟨hu.trans u1, _, _, rfl, SR.nilA _ _ _ _⟩
        · generalize bs L = SL at *
          by_cases hsb : subsB O = true
          · have hput := putS_of hsb
            have hbe := str_beq (bs (putSubsL O)) s
            by_cases hq : O.flatMap subKeyL = s.data.toList
            · have HE : Hid (subsI s.data.toList = some O) := by
                unfold Hid subsI getSubs
                rw [HD.out]
                unfold subsOut
                exact if_pos ⟨fun hh => absurd hh (by decide), hsb, hq⟩
              rw [decide_eq_true (by rw [hput, hq]; rfl)] at hbe
              clear hq hput
              generalize bs (putSubsL O) = T at *
              go_wp2_with fail
              refine (CSO.out _ (Up.refl _)).mono ?_
              rintro e w1 ⟨rfl, u1⟩
              rw [hsb]
              go_wp2_with fail
              refine (CPS.out _ u1).mono ?_
              rintro e w2 ⟨rfl, u2⟩
              go_wp2_with fail
              go_ret2
              rw [HE.out]
              exact ⟨(hu.trans u1).trans u2, _, _, rfl, _, (so.up good_S u1).up good_S u2, nd⟩
            · have HE : Hid (subsI s.data.toList = none) := by
                unfold Hid subsI getSubs
                rw [HD.out]
                unfold subsOut
                exact if_neg (fun hh => hq hh.2.2)
              rw [decide_eq_false (fun hh => hq (by have := congrArg (fun x : ByteArray => x.data.toList) hh; rw [hput] at this; simpa [bs] using this))] at hbe
              clear hq hput
              generalize bs (putSubsL O) = T at *
              go_wp2_with fail
              refine (CSO.out _ (Up.refl _)).mono ?_
              rintro e w1 ⟨rfl, u1⟩
              rw [hsb]
              go_wp2_with fail
              refine (CPS.out _ u1).mono ?_
              rintro e w2 ⟨rfl, u2⟩
              go_wp2_with fail
              go_ret2
              rw [HE.out]
              exact ⟨(hu.trans u1).trans u2, _, _, rfl, SR.nilA _ _ _ _⟩
          · have HE : Hid (subsI s.data.toList = none) := by
              unfold Hid subsI getSubs
              rw [HD.out]
              unfold subsOut
              exact if_neg (fun hh => hsb hh.2.1)
            have hsb' : subsB O = false := by simpa using hsb
            go_wp2_with fail
            refine (CSO.out _ (Up.refl _)).mono ?_
            rintro e w1 ⟨rfl, u1⟩
            rw [hsb']
            go_wp2_with fail
            go_ret2
            rw [HE.out]
            exact ⟨hu.trans u1, _, _, rfl, SR.nilA _ _ _ _⟩
    · have hne : L ≠ [] := fun h => hex (.inl h)
      have h4 : O.length ≤ 4 := by
        rcases Nat.lt_or_ge 4 O.length with h | h
        · exact absurd (.inr (by omega)) hex
        · exact h
      obtain ⟨c, l, rfl⟩ : ∃ c l, L = c :: l := by cases L with
        | nil => exact absurd rfl hne
        | cons c l => exact ⟨c, l, rfl⟩
      have hk2 : decK 0 2000000000000000000 5 [] s.data.toList = match takeSub 0 2000000000000000000 (c :: l) with
        | none => none
        | some (t, r) => decK 0 2000000000000000000 (5 - (O.length + 1)) (O ++ [t]) r := by
        rw [HK.out]
        obtain ⟨m, hm⟩ : ∃ m, 5 - O.length = m + 1 := ⟨4 - O.length, by omega⟩
        have e2 : 5 - (O.length + 1) = m := by omega
        rw [hm, e2]
        rfl
      have HK2 := Lib.hid hk2
      have he := bs_isEmpty c l
      have hbz := bs_size (c :: l)
      have hll1 : (c :: l).length = l.length + 1 := rfl
      have hbl := bs_size l
      have h0S : 0 < (bs (c :: l)).size := by omega
      have hS0 : (bs (c :: l))[0] = c := rfl
      have hx1 : (bs (c :: l)).extract 1 (bs (c :: l)).size = bs l := by rw [bs_extract, bs_size, List.take_length]; rfl
      have cgn := fun W (u : Up wr W) => c_getNumber (bs l) W (by omega) (tab_up htab (hu.trans u))
      have cgs := fun W => c_getString (bs l) W (by omega)
      have CGN := Lib.hid cgn
      have CGS := Lib.hid cgs
      have HTK : Hid (takeSub 0 2000000000000000000 (c :: l) = if c = 1 then takeNum 0 2000000000000000000 l else if c = 2 then (decS l).map fun p => (bs p.1, p.2) else none) := rfl
      have htl := fun t r => takeSub_len (lo := 0) (hi := 2000000000000000000) (l := c :: l) (t := t) (r := r)
      have HTL := Lib.hid htl
      clear HK hk2 cgn cgs htl hex hne
      generalize bs (c :: l) = S at *
      have HBZ := Lib.hid hbz
      clear hbz
      by_cases hc1 : c = 1
      · have b1 : (c.toNat : Int) = 1 := u8_yb 1 rfl hc1
        have HTK2 : Hid (takeSub 0 2000000000000000000 (c :: l) = takeNum 0 2000000000000000000 l) := by
          unfold Hid
          rw [HTK.out]
          rw [if_pos hc1]
        cases hts : takeSub 0 2000000000000000000 (c :: l) with
        | none =>
          have HE : Hid (subsI s.data.toList = none) := by
            unfold Hid subsI getSubs
            rw [HK2.out, hts]
            rfl
          have CT : Hid (∀ W, Up wr W → Calls Tryz.prog 197 #[.string (S.extract 1 S.size)] W (RetV (takeV none) W)) := Lib.hid fun W u => by
            have h := CGN.out W u
            rw [← hts, HTK2.out, hx1]
            exact h
          clear hx1 HTK HTK2 HK2 HTL hts
          go_wp2_with fail
          refine (CT.out _ (Up.refl _)).mono ?_
          rintro e w1 ⟨rfl, u1⟩
          unfold takeV
          go_wp2_with fail
          go_ret2
          rw [HE.out]
          exact ⟨hu.trans u1, _, _, rfl, SR.nilA _ _ _ _⟩
        | some p =>
          obtain ⟨t, r⟩ := p
          obtain ⟨hr1, hr2⟩ := HTL.out t r hts
          have HK3 : Hid (decK 0 2000000000000000000 5 [] s.data.toList = decK 0 2000000000000000000 (5 - (O.length + 1)) (O ++ [t]) r) := by
            unfold Hid
            rw [HK2.out, hts]
          have CT : Hid (∀ W, Up wr W → Calls Tryz.prog 197 #[.string (S.extract 1 S.size)] W (RetV (takeV (some (t, r))) W)) := Lib.hid fun W u => by
            have h := CGN.out W u
            rw [← hts, HTK2.out, hx1]
            exact h
          clear hx1 HTK HTK2 HK2 HTL hts
          have htm : t.size ≤ maxLen := by unfold maxLen; omega
          have hrz := bs_size r
          go_wp2_with fail
          refine (CT.out _ (Up.refl _)).mono ?_
          rintro e w1 ⟨rfl, u1⟩
          unfold takeV
          have hu1 := hu.trans u1
          have so1 := so.up good_S u1
          have kq := Bk.new w1 9 #[.string t]
          have uq := (Up.refl w1).alloc (.cells #[.string t] 9)
          have ho : shS.own (w1.alloc (.cells #[.string t] 9)) w.heap.size (w1.alloc (.cells #[.string t] 9)).heap.size [.string t] t [] := ⟨⟨rfl, htm⟩, rfl⟩
          have hlo := hu1.size
          have hx9 : (O.length + 1) * i0.bytes ≤ 140737488355328 := by rw [hz2]; omega
          have hx2 : O.length + 1 ≤ maxLen := by unfold maxLen; omega
          go_wp2_with (at_builtin
                       refine wpList_app good_S rfl _ _ _ _ 9 rfl i0 _ Tryz.underlying65 hi0 hz0 hzc (by rfl) (lo := w.heap.size) (xs := O) (ys := [t]) (bl := bl) (bs := [[]]) (news := [.string t]) rfl rfl (so1.up good_S uq) (by simpa using nd) (Src.box (t := 9) Tryz.underlying65 kq (by simp [Value.oneCell']) (by rw [hzc]; rfl)) (Rowed.one good_S ho) (by simp; omega) hx9 hx2 ?_
                       intro D' d' bl' w2 hap
                       obtain ⟨so2, nd2, mem2, on2⟩ := hap)
          go_roundw
          case rel => exact ⟨r, O ++ [t], D', d', bl', rfl, by simp, by simp; omega, by omega, by rw [List.length_append]; exact HK3, so2, nd2, (hu1.trans uq).only on2 (fun y hy => (so1.in_ good_S y hy).1)⟩
          case measure => have := HBZ.out; simp only [strSz]; omega
      · by_cases hc2 : c = 2
        · have b1 : (c.toNat : Int) = 2 := u8_yb 2 rfl hc2
          have n1 := u8_nn 1 rfl hc1
          have b9 := u8_nb 1 rfl hc1
          have HTK2 : Hid (takeSub 0 2000000000000000000 (c :: l) = (decS l).map fun p => (bs p.1, p.2)) := by
            unfold Hid
            rw [HTK.out]
            rw [if_neg hc1, if_pos hc2]
          cases hts : takeSub 0 2000000000000000000 (c :: l) with
          | none =>
            have HE : Hid (subsI s.data.toList = none) := by
              unfold Hid subsI getSubs
              rw [HK2.out, hts]
              rfl
            have CT : Hid (∀ W, Up wr W → Calls Tryz.prog 198 #[.string (S.extract 1 S.size)] W (RetV (takeV none) W)) := Lib.hid fun W u => by
              have h := CGS.out W
              rw [← hts, HTK2.out, hx1]
              exact h
            clear hx1 HTK HTK2 HK2 HTL hts
            go_wp2_with fail
            refine (CT.out _ (Up.refl _)).mono ?_
            rintro e w1 ⟨rfl, u1⟩
            unfold takeV
            go_wp2_with fail
            go_ret2
            rw [HE.out]
            exact ⟨hu.trans u1, _, _, rfl, SR.nilA _ _ _ _⟩
          | some p =>
            obtain ⟨t, r⟩ := p
            obtain ⟨hr1, hr2⟩ := HTL.out t r hts
            have HK3 : Hid (decK 0 2000000000000000000 5 [] s.data.toList = decK 0 2000000000000000000 (5 - (O.length + 1)) (O ++ [t]) r) := by
              unfold Hid
              rw [HK2.out, hts]
            have CT : Hid (∀ W, Up wr W → Calls Tryz.prog 198 #[.string (S.extract 1 S.size)] W (RetV (takeV (some (t, r))) W)) := Lib.hid fun W u => by
              have h := CGS.out W
              rw [← hts, HTK2.out, hx1]
              exact h
            clear hx1 HTK HTK2 HK2 HTL hts
            have htm : t.size ≤ maxLen := by unfold maxLen; omega
            have hrz := bs_size r
            go_wp2_with fail
            refine (CT.out _ (Up.refl _)).mono ?_
            rintro e w1 ⟨rfl, u1⟩
            unfold takeV
            have hu1 := hu.trans u1
            have so1 := so.up good_S u1
            have kq := Bk.new w1 9 #[.string t]
            have uq := (Up.refl w1).alloc (.cells #[.string t] 9)
            have ho : shS.own (w1.alloc (.cells #[.string t] 9)) w.heap.size (w1.alloc (.cells #[.string t] 9)).heap.size [.string t] t [] := ⟨⟨rfl, htm⟩, rfl⟩
            have hlo := hu1.size
            have hx9 : (O.length + 1) * i0.bytes ≤ 140737488355328 := by rw [hz2]; omega
            have hx2 : O.length + 1 ≤ maxLen := by unfold maxLen; omega
            go_wp2_with (at_builtin
                         refine wpList_app good_S rfl _ _ _ _ 9 rfl i0 _ Tryz.underlying65 hi0 hz0 hzc (by rfl) (lo := w.heap.size) (xs := O) (ys := [t]) (bl := bl) (bs := [[]]) (news := [.string t]) rfl rfl (so1.up good_S uq) (by simpa using nd) (Src.box (t := 9) Tryz.underlying65 kq (by simp [Value.oneCell']) (by rw [hzc]; rfl)) (Rowed.one good_S ho) (by simp; omega) hx9 hx2 ?_
                         intro D' d' bl' w2 hap
                         obtain ⟨so2, nd2, mem2, on2⟩ := hap)
            go_roundw
            case rel => exact ⟨r, O ++ [t], D', d', bl', rfl, by simp, by simp; omega, by omega, by rw [List.length_append]; exact HK3, so2, nd2, (hu1.trans uq).only on2 (fun y hy => (so1.in_ good_S y hy).1)⟩
            case measure => have := HBZ.out; simp only [strSz]; omega
        · have n1 := u8_nn 1 rfl hc1
          have b1 := u8_nb 1 rfl hc1
          have n2 := u8_nn 2 rfl hc2
          have b2 := u8_nb 2 rfl hc2
          have HE : Hid (subsI s.data.toList = none) := by
            unfold Hid subsI getSubs
            rw [HK2.out, HTK.out, if_neg hc1, if_neg hc2]
            rfl
          go_wp2_with fail
          go_ret2
          rw [HE.out]
          exact ⟨hu, _, _, rfl, SR.nilA _ _ _ _⟩
end Go.Proofs.YtehhgogmbpdpbaaGreatDoor

namespace Go.Proofs.YtehhgogmbpdpbaaGreatDoor
open Go.RowKit
set_option linter.unusedVariables false
set_option linter.unusedSimpArgs false

def nodeB (x : TNode) : Bool := placeB x.1 x.2.1 && decide (x.2.2.size ≤ 64)
def TreeP (l : TTree) : Prop := l.length ≤ 120 ∧ ∀ i (h : i < l.length), nodeB l[i] = true ∧ (0 < i → locLt (l[i - 1].1, l[i - 1].2.1) (l[i].1, l[i].2.1) = true)
instance (l : TTree) : Decidable (TreeP l) := by unfold TreeP; infer_instance
def treeB (l : TTree) : Bool := decide (TreeP l)
theorem treeB_t {l : TTree} (h : TreeP l) : treeB l = true := decide_eq_true h
theorem treeB_f {l : TTree} (h : ¬ TreeP l) : treeB l = false := decide_eq_false h
theorem node_small {x : TNode} (h : shNode.sz x ≤ 1048576) : Small x.2.1 := fun i hi => by
  have h1 : (shL shS).sz x.2.1 ≤ shNode.sz x := by
    show (shL shS).sz x.2.1 ≤ shS.sz x.1 + ((shL shS).sz x.2.1 + _)
    omega
  exact sz_le shS x.2.1 hi (Nat.le_trans h1 h)
theorem c_nodeOk (x : TNode) (v : Value) (w : World) (h : AV shNode w v x) : Calls Tryz.prog 125 #[v] w (RetV (.bool (nodeB x)) w) := by
  obtain ⟨cs, rfl, h⟩ := h
  obtain ⟨A1, c1, rfl, b0, b1, b2⟩ := openNode h
  obtain ⟨x0, x1, x2⟩ := x
  simp only at b0 b1 b2
  clear h
  have hv : nodeB (x0, x1, x2) = (placeB x0 x1 && decide (x2.size ≤ 64)) := rfl
  have k0 := Bk.new w 119 #[.string x0, .slice A1 x1.length c1, .string x2]
  have u0 : Up w (w.alloc (.cells #[.string x0, .slice A1 x1.length c1, .string x2] 119)) := (Up.refl w).alloc _
  cases hp : placeB x0 x1
  all_goals
    rw [hp] at hv
    have H := Lib.hid hv
    clear hv
    go_enter Tryz.func125, Tryz.ntmps125
    go_wp2_with fail
    refine (c_locationOk x0 x1 A1 c1 _ b0 (b1.up good_S u0)).mono ?_
    rintro e w1 ⟨rfl, u1⟩
    rw [hp]
    have g2 : w1.cell? ⟨w.heap.size, 2, none⟩ = some (.string x2) := (k0.up u1).cell 2
    go_wp2_with fail
    go_ret
    exact ⟨by rw [H.out]; first | done | rfl | (simp; done) | (simp; omega), u0.trans u1⟩
theorem c_l03Node (x : TNode) (v : Value) (w : World) (h : AV shNode w v x) : Calls Tryz.prog 121 #[v] w (RetV (.bool (nodeB x)) w) := by
  obtain ⟨cs, rfl, h⟩ := h
  obtain ⟨A1, c1, rfl, b0, b1, b2⟩ := openNode h
  obtain ⟨x0, x1, x2⟩ := x
  simp only at b0 b1 b2
  clear h
  have hv : nodeB (x0, x1, x2) = (placeB x0 x1 && decide (x2.size ≤ 64)) := rfl
  have k0 := Bk.new w 119 #[.string x0, .slice A1 x1.length c1, .string x2]
  have u0 : Up w (w.alloc (.cells #[.string x0, .slice A1 x1.length c1, .string x2] 119)) := (Up.refl w).alloc _
  cases hp : placeB x0 x1
  all_goals
    rw [hp] at hv
    have H := Lib.hid hv
    clear hv
    go_enter Tryz.func121, Tryz.ntmps121
    go_wp2_with fail
    refine (c_l03Place x0 x1 A1 c1 _ b0 (b1.up good_S u0)).mono ?_
    rintro e w1 ⟨rfl, u1⟩
    rw [hp]
    have g2 : w1.cell? ⟨w.heap.size, 2, none⟩ = some (.string x2) := (k0.up u1).cell 2
    go_wp2_with fail
    go_ret
    exact ⟨by rw [H.out]; first | done | rfl | (simp; done) | (simp; omega), u0.trans u1⟩
set_option maxRecDepth 100000 in
set_option maxHeartbeats 8000000 in
theorem c_implTreeOk (v : Value) (x : TTree) (w : World) (h : AV shTree w v x) (hn : shTree.sz x ≤ 1048576) (htab : Tab w) :
    Calls Tryz.prog 77 #[v] w (RetV (.bool (treeB x)) w) := by
  obtain ⟨cs, rfl, h⟩ := h
  obtain ⟨A0, c0, rfl, b00⟩ := openTree h
  clear h
  have hlen := b00.len_le
  have HSZ := Lib.hid (fun (i : Nat) (hi : i < x.length) => sz_le shNode x hi hn)
  clear hn
  have kT0 := Bk.new w 33 #[.slice A0 x.length c0]
  have uu0 : Up w (w.alloc (.cells #[.slice A0 x.length c0] 33)) := (Up.refl w).alloc _
  by_cases h120 : x.length ≤ 120
  · go_enter Tryz.func77, Tryz.ntmps77
    go_wp2_with fail
    go_loopw [12] (fun i wr => ∃ k : Nat, k ≤ x.length ∧ i = .int .i64 k ∧ Hid (∀ i (h : i < x.length), i < k → nodeB x[i] = true ∧ (0 < i → locLt (x[i - 1].1, x[i - 1].2.1) (x[i].1, x[i].2.1) = true)) ∧ Up (w.alloc (.cells #[.slice A0 x.length c0] 33)) wr) (fun i _ => x.length - (intOf i).toNat)
    case atStart => exact ⟨0, Nat.zero_le _, rfl, fun i h hi => absurd hi (by omega), Up.refl _⟩
    case round =>
      obtain ⟨k, hk, rfl, HA, hu⟩ := hrel
      have kT := kT0.up hu
      have gT : wr.cell? ⟨w.heap.size, 0, none⟩ = some (.slice A0 x.length c0) := kT.cell 0
      by_cases hlt : k < x.length
      · have sm := node_small (HSZ.out k hlt)
        have HSM := Lib.hid sm
        clear sm
        obtain ⟨g, off, A2, c2, hA, _, hgl, hc0, hc1, hc2, b0, b1, b2, _⟩ := atNode (b00.up good_Node (uu0.trans hu)) hlt
        have av : ∀ W, Up wr W → AV shNode W (.agg #[.string x[k].1, .slice A2 x[k].2.1.length c2, .string x[k].2.2]) x[k] := fun W hW => AV.up good_Node ⟨_, rfl, mkNode (x := x[k]) b0 b1 b2⟩ hW
        have ci := fun W (hW : Up wr W) => c_nodeOk x[k] _ W (av W hW)
        have kb := Bk.new wr 119 #[.string x[k].1, .slice A2 x[k].2.1.length c2, .string x[k].2.2]
        have uA : Up wr (wr.alloc (.cells #[.string x[k].1, .slice A2 x[k].2.1.length c2, .string x[k].2.2] 119)) := (Up.refl wr).alloc _
        subst hA
        cases hi : nodeB x[k]
        · have HE := Lib.hid (treeB_f (l := x) fun hh => by have := (hh.2 k hlt).1; rw [hi] at this; cases this)
          rw [hi] at ci
          have CI := Lib.hid ci
          clear ci av hi
          go_wp2_with fail
          generalize hW : (wr.alloc (.cells #[.string x[k].1, .slice A2 x[k].2.1.length c2, .string x[k].2.2] 119)) = W0 at *
          have t0 := fun t : UpT W0 => cell_up t (kb.cell 0 : W0.cell? ⟨wr.heap.size, 0, none⟩ = some (.string x[k].1))
          have t1 := fun t : UpT W0 => cell_up t (kb.cell 1 : W0.cell? ⟨wr.heap.size, 1, none⟩ = some (.slice A2 x[k].2.1.length c2))
          have t2 := fun t : UpT W0 => cell_up t (kb.cell 2 : W0.cell? ⟨wr.heap.size, 2, none⟩ = some (.string x[k].2.2))
          have t5 := fun t : UpT W0 => cell_up t ((kT.up uA).cell 0 : W0.cell? ⟨w.heap.size, 0, none⟩ = some (.slice (some ⟨g, off, none⟩) x.length c0))
          clear hW
          refine wp_region_up (by kernel_rfl) (by kernel_rfl) ?_
          repeat (go_big_quiet_step ((go_at_call 125; exact up_call (CI.out _ (uA.trans (UpT.up _))) (UpT.up _))))
          refine wpQuiet_nil ?_
          rintro _ ⟨⟨w1, u1⟩, rfl⟩
          go_wp2_with fail
          go_ret
          exact ⟨by rw [HE.out]; first | done | rfl, ((uu0.trans hu).trans uA).trans u1⟩
        · rw [hi] at ci
          have CI := Lib.hid ci
          clear ci av
          by_cases hk0 : k = 0
          · have HN : Hid (∀ i (h : i < x.length), i < k + 1 → nodeB x[i] = true ∧ (0 < i → locLt (x[i - 1].1, x[i - 1].2.1) (x[i].1, x[i].2.1) = true)) := fun i h hi2 => by
              obtain rfl : i = k := (by omega)
              exact ⟨hi, fun h0 => absurd h0 (by omega)⟩
            clear hi
            subst hk0
            simp only [Nat.zero_mul, Nat.add_zero] at hc0 hc1 hc2
            go_wp2_with fail
            generalize hW : (wr.alloc (.cells #[.string x[0].1, .slice A2 x[0].2.1.length c2, .string x[0].2.2] 119)) = W0 at *
            have t0 := fun t : UpT W0 => cell_up t (kb.cell 0 : W0.cell? ⟨wr.heap.size, 0, none⟩ = some (.string x[0].1))
            have t1 := fun t : UpT W0 => cell_up t (kb.cell 1 : W0.cell? ⟨wr.heap.size, 1, none⟩ = some (.slice A2 x[0].2.1.length c2))
            have t2 := fun t : UpT W0 => cell_up t (kb.cell 2 : W0.cell? ⟨wr.heap.size, 2, none⟩ = some (.string x[0].2.2))
            have t5 := fun t : UpT W0 => cell_up t ((kT.up uA).cell 0 : W0.cell? ⟨w.heap.size, 0, none⟩ = some (.slice (some ⟨g, off, none⟩) x.length c0))
            clear hW
            refine wp_region_up (by kernel_rfl) (by kernel_rfl) ?_
            repeat (go_big_quiet_step ((go_at_call 125; exact up_call (CI.out _ (uA.trans (UpT.up _))) (UpT.up _))))
            refine wpQuiet_nil ?_
            rintro _ ⟨⟨w1, u1⟩, rfl⟩
            go_wp2_with fail
            go_roundw
            case rel => exact ⟨0 + 1, by omega, rfl, HN, (hu.trans uA).trans u1⟩
            case measure => simp [intOf]; omega
          · obtain ⟨p, rfl⟩ : ∃ p, k = p + 1 := ⟨k - 1, by omega⟩
            have hlp : p < x.length := by omega
            have sm := node_small (HSZ.out p hlp)
            have HSP := Lib.hid sm
            clear sm
            obtain ⟨g', off', A3, c3, hA', _, _, hp0, hp1, _, d0, d1, _, _⟩ := atNode (b00.up good_Node (uu0.trans hu)) hlp
            simp only [Option.some.injEq, Addr.mk.injEq, and_true] at hA'
            obtain ⟨rfl, rfl⟩ := hA'
            have cc := fun W (hW : Up wr W) => c_compareLocations x[p].1 x[p + 1].1 x[p].2.1 x[p + 1].2.1 A3 A2 c3 c2 W (SR.up good_S d1 hW) (SR.up good_S b1 hW) HSP.out HSM.out (tab_up htab ((uu0.trans hu).trans hW))
            have hsub : IntKind.i64.wrap ((p : Int) + 1 - 1) = (p : Int) := by rw [IntWalk.i64_in _ (by omega)]; omega
            cases hL : locLt (x[p].1, x[p].2.1) (x[p + 1].1, x[p + 1].2.1)
            · have HE := Lib.hid (treeB_f (l := x) fun hh => by have := (hh.2 (p + 1) hlt).2 (by omega); simp only [Nat.add_sub_cancel] at this; rw [hL] at this; cases this)
              have hz := (cmpBy_nonneg lo_loc _ _).2 hL
              generalize cmpBy locLt (x[p].1, x[p].2.1) (x[p + 1].1, x[p + 1].2.1) = z at cc hz
              have CC := Lib.hid cc
              clear cc hL hi
              go_wp2_with fail
              generalize hW : (wr.alloc (.cells #[.string x[p + 1].1, .slice A2 x[p + 1].2.1.length c2, .string x[p + 1].2.2] 119)) = W0 at *
              have t0 := fun t : UpT W0 => cell_up t (kb.cell 0 : W0.cell? ⟨wr.heap.size, 0, none⟩ = some (.string x[p + 1].1))
              have t1 := fun t : UpT W0 => cell_up t (kb.cell 1 : W0.cell? ⟨wr.heap.size, 1, none⟩ = some (.slice A2 x[p + 1].2.1.length c2))
              have t2 := fun t : UpT W0 => cell_up t (kb.cell 2 : W0.cell? ⟨wr.heap.size, 2, none⟩ = some (.string x[p + 1].2.2))
              have t5 := fun t : UpT W0 => cell_up t ((kT.up uA).cell 0 : W0.cell? ⟨w.heap.size, 0, none⟩ = some (.slice (some ⟨g, off, none⟩) x.length c0))
              clear hW
              have t8 := fun t : UpT W0 => cell_up t ((uA.cell (cell_lt hp0)).trans hp0)
              have t9 := fun t : UpT W0 => cell_up t ((uA.cell (cell_lt hp1)).trans hp1)
              refine wp_region_up (by kernel_rfl) (by kernel_rfl) ?_
              repeat (go_big_quiet_step ((first | (go_at_call 125; exact up_call (CI.out _ (uA.trans (UpT.up _))) (UpT.up _)) | (go_at_call 81; exact up_call (CC.out _ (uA.trans (UpT.up _))) (UpT.up _)))))
              refine wpQuiet_nil ?_
              rintro _ ⟨⟨w1, u1⟩, rfl⟩
              go_wp2_with fail
              go_ret
              exact ⟨by rw [HE.out]; first | done | rfl, ((uu0.trans hu).trans uA).trans u1⟩
            · have HN : Hid (∀ i (h : i < x.length), i < p + 1 + 1 → nodeB x[i] = true ∧ (0 < i → locLt (x[i - 1].1, x[i - 1].2.1) (x[i].1, x[i].2.1) = true)) := fun i h hi2 => by
                by_cases e : i = p + 1
                · subst e
                  exact ⟨hi, fun _ => by simpa only [Nat.add_sub_cancel] using hL⟩
                · exact HA.out i h (by omega)
              have hz : cmpBy locLt (x[p].1, x[p].2.1) (x[p + 1].1, x[p + 1].2.1) = -1 := cmpBy_lt hL
              rw [hz] at cc
              have CC := Lib.hid cc
              clear cc hL hi hz
              go_wp2_with fail
              generalize hW : (wr.alloc (.cells #[.string x[p + 1].1, .slice A2 x[p + 1].2.1.length c2, .string x[p + 1].2.2] 119)) = W0 at *
              have t0 := fun t : UpT W0 => cell_up t (kb.cell 0 : W0.cell? ⟨wr.heap.size, 0, none⟩ = some (.string x[p + 1].1))
              have t1 := fun t : UpT W0 => cell_up t (kb.cell 1 : W0.cell? ⟨wr.heap.size, 1, none⟩ = some (.slice A2 x[p + 1].2.1.length c2))
              have t2 := fun t : UpT W0 => cell_up t (kb.cell 2 : W0.cell? ⟨wr.heap.size, 2, none⟩ = some (.string x[p + 1].2.2))
              have t5 := fun t : UpT W0 => cell_up t ((kT.up uA).cell 0 : W0.cell? ⟨w.heap.size, 0, none⟩ = some (.slice (some ⟨g, off, none⟩) x.length c0))
              clear hW
              have t8 := fun t : UpT W0 => cell_up t ((uA.cell (cell_lt hp0)).trans hp0)
              have t9 := fun t : UpT W0 => cell_up t ((uA.cell (cell_lt hp1)).trans hp1)
              refine wp_region_up (by kernel_rfl) (by kernel_rfl) ?_
              repeat (go_big_quiet_step ((first | (go_at_call 125; exact up_call (CI.out _ (uA.trans (UpT.up _))) (UpT.up _)) | (go_at_call 81; exact up_call (CC.out _ (uA.trans (UpT.up _))) (UpT.up _)))))
              refine wpQuiet_nil ?_
              rintro _ ⟨⟨w1, u1⟩, rfl⟩
              go_wp2_with fail
              go_roundw
              case rel => exact ⟨p + 1 + 1, by omega, by go_num, HN, (hu.trans uA).trans u1⟩
              case measure => simp [intOf]; omega
      · have HE := Lib.hid (treeB_t (l := x) ⟨h120, fun i h => HA.out i h (by omega)⟩)
        go_wp2_with fail
        go_ret
        exact ⟨by rw [HE.out]; first | done | rfl, uu0.trans hu⟩
  · have HE := Lib.hid (treeB_f (l := x) fun hh => h120 hh.1)
    go_enter Tryz.func77, Tryz.ntmps77
    go_wp2_with fail
    go_ret
    exact ⟨by rw [HE.out]; first | done | rfl, uu0⟩
set_option maxRecDepth 100000 in
set_option maxHeartbeats 8000000 in
theorem c_specTreeOk (v : Value) (x : TTree) (w : World) (h : AV shTree w v x) (hn : shTree.sz x ≤ 1048576) :
    Calls Tryz.prog 70 #[v] w (RetV (.bool (treeB x)) w) := by
  obtain ⟨cs, rfl, h⟩ := h
  obtain ⟨A0, c0, rfl, b00⟩ := openTree h
  clear h
  have hlen := b00.len_le
  have HSZ := Lib.hid (fun (i : Nat) (hi : i < x.length) => sz_le shNode x hi hn)
  clear hn
  have kT0 := Bk.new w 33 #[.slice A0 x.length c0]
  have uu0 : Up w (w.alloc (.cells #[.slice A0 x.length c0] 33)) := (Up.refl w).alloc _
  by_cases h120 : x.length ≤ 120
  · go_enter Tryz.func70, Tryz.ntmps70
    go_wp2_with fail
    go_loopw [3] (fun i wr => ∃ k : Nat, k ≤ x.length ∧ i = .int .i64 k ∧ Hid (∀ i (h : i < x.length), i < k → nodeB x[i] = true ∧ (0 < i → locLt (x[i - 1].1, x[i - 1].2.1) (x[i].1, x[i].2.1) = true)) ∧ Up (w.alloc (.cells #[.slice A0 x.length c0] 33)) wr) (fun i _ => x.length - (intOf i).toNat)
    case atStart => exact ⟨0, Nat.zero_le _, rfl, fun i h hi => absurd hi (by omega), Up.refl _⟩
    case round =>
      obtain ⟨k, hk, rfl, HA, hu⟩ := hrel
      have kT := kT0.up hu
      have gT : wr.cell? ⟨w.heap.size, 0, none⟩ = some (.slice A0 x.length c0) := kT.cell 0
      by_cases hlt : k < x.length
      · have sm := node_small (HSZ.out k hlt)
        have HSM := Lib.hid sm
        clear sm
        obtain ⟨g, off, A2, c2, hA, _, hgl, hc0, hc1, hc2, b0, b1, b2, _⟩ := atNode (b00.up good_Node (uu0.trans hu)) hlt
        have av : ∀ W, Up wr W → AV shNode W (.agg #[.string x[k].1, .slice A2 x[k].2.1.length c2, .string x[k].2.2]) x[k] := fun W hW => AV.up good_Node ⟨_, rfl, mkNode (x := x[k]) b0 b1 b2⟩ hW
        have ci := fun W (hW : Up wr W) => c_l03Node x[k] _ W (av W hW)
        have kb := Bk.new wr 119 #[.string x[k].1, .slice A2 x[k].2.1.length c2, .string x[k].2.2]
        have uA : Up wr (wr.alloc (.cells #[.string x[k].1, .slice A2 x[k].2.1.length c2, .string x[k].2.2] 119)) := (Up.refl wr).alloc _
        subst hA
        cases hi : nodeB x[k]
        · have HE := Lib.hid (treeB_f (l := x) fun hh => by have := (hh.2 k hlt).1; rw [hi] at this; cases this)
          rw [hi] at ci
          have CI := Lib.hid ci
          clear ci av hi
          go_wp2_with fail
          generalize hW : (wr.alloc (.cells #[.string x[k].1, .slice A2 x[k].2.1.length c2, .string x[k].2.2] 119)) = W0 at *
          have t0 := fun t : UpT W0 => cell_up t (kb.cell 0 : W0.cell? ⟨wr.heap.size, 0, none⟩ = some (.string x[k].1))
          have t1 := fun t : UpT W0 => cell_up t (kb.cell 1 : W0.cell? ⟨wr.heap.size, 1, none⟩ = some (.slice A2 x[k].2.1.length c2))
          have t2 := fun t : UpT W0 => cell_up t (kb.cell 2 : W0.cell? ⟨wr.heap.size, 2, none⟩ = some (.string x[k].2.2))
          have t5 := fun t : UpT W0 => cell_up t ((kT.up uA).cell 0 : W0.cell? ⟨w.heap.size, 0, none⟩ = some (.slice (some ⟨g, off, none⟩) x.length c0))
          clear hW
          refine wp_region_up (by kernel_rfl) (by kernel_rfl) ?_
          repeat (go_big_quiet_step ((go_at_call 121; exact up_call (CI.out _ (uA.trans (UpT.up _))) (UpT.up _))))
          refine wpQuiet_nil ?_
          rintro _ ⟨⟨w1, u1⟩, rfl⟩
          go_wp2_with fail
          go_ret
          exact ⟨by rw [HE.out]; first | done | rfl, ((uu0.trans hu).trans uA).trans u1⟩
        · rw [hi] at ci
          have CI := Lib.hid ci
          clear ci av
          by_cases hk0 : k = 0
          · have HN : Hid (∀ i (h : i < x.length), i < k + 1 → nodeB x[i] = true ∧ (0 < i → locLt (x[i - 1].1, x[i - 1].2.1) (x[i].1, x[i].2.1) = true)) := fun i h hi2 => by
              obtain rfl : i = k := (by omega)
              exact ⟨hi, fun h0 => absurd h0 (by omega)⟩
            clear hi
            subst hk0
            simp only [Nat.zero_mul, Nat.add_zero] at hc0 hc1 hc2
            go_wp2_with fail
            generalize hW : (wr.alloc (.cells #[.string x[0].1, .slice A2 x[0].2.1.length c2, .string x[0].2.2] 119)) = W0 at *
            have t0 := fun t : UpT W0 => cell_up t (kb.cell 0 : W0.cell? ⟨wr.heap.size, 0, none⟩ = some (.string x[0].1))
            have t1 := fun t : UpT W0 => cell_up t (kb.cell 1 : W0.cell? ⟨wr.heap.size, 1, none⟩ = some (.slice A2 x[0].2.1.length c2))
            have t2 := fun t : UpT W0 => cell_up t (kb.cell 2 : W0.cell? ⟨wr.heap.size, 2, none⟩ = some (.string x[0].2.2))
            have t5 := fun t : UpT W0 => cell_up t ((kT.up uA).cell 0 : W0.cell? ⟨w.heap.size, 0, none⟩ = some (.slice (some ⟨g, off, none⟩) x.length c0))
            clear hW
            refine wp_region_up (by kernel_rfl) (by kernel_rfl) ?_
            repeat (go_big_quiet_step ((go_at_call 121; exact up_call (CI.out _ (uA.trans (UpT.up _))) (UpT.up _))))
            refine wpQuiet_nil ?_
            rintro _ ⟨⟨w1, u1⟩, rfl⟩
            go_wp2_with fail
            go_roundw
            case rel => exact ⟨0 + 1, by omega, rfl, HN, (hu.trans uA).trans u1⟩
            case measure => simp [intOf]; omega
          · obtain ⟨p, rfl⟩ : ∃ p, k = p + 1 := ⟨k - 1, by omega⟩
            have hlp : p < x.length := by omega
            have sm := node_small (HSZ.out p hlp)
            have HSP := Lib.hid sm
            clear sm
            obtain ⟨g', off', A3, c3, hA', _, _, hp0, hp1, _, d0, d1, _, _⟩ := atNode (b00.up good_Node (uu0.trans hu)) hlp
            simp only [Option.some.injEq, Addr.mk.injEq, and_true] at hA'
            obtain ⟨rfl, rfl⟩ := hA'
            have cc := fun W (hW : Up wr W) => c_l03Less x[p].1 x[p + 1].1 x[p].2.1 x[p + 1].2.1 A3 A2 c3 c2 W (SR.up good_S d1 hW) (SR.up good_S b1 hW)
            have hsub : IntKind.i64.wrap ((p : Int) + 1 - 1) = (p : Int) := by rw [IntWalk.i64_in _ (by omega)]; omega
            cases hL : locLt (x[p].1, x[p].2.1) (x[p + 1].1, x[p + 1].2.1)
            · have HE := Lib.hid (treeB_f (l := x) fun hh => by have := (hh.2 (p + 1) hlt).2 (by omega); simp only [Nat.add_sub_cancel] at this; rw [hL] at this; cases this)
              rw [hL] at cc
              have CC := Lib.hid cc
              clear cc hL hi
              go_wp2_with fail
              generalize hW : (wr.alloc (.cells #[.string x[p + 1].1, .slice A2 x[p + 1].2.1.length c2, .string x[p + 1].2.2] 119)) = W0 at *
              have t0 := fun t : UpT W0 => cell_up t (kb.cell 0 : W0.cell? ⟨wr.heap.size, 0, none⟩ = some (.string x[p + 1].1))
              have t1 := fun t : UpT W0 => cell_up t (kb.cell 1 : W0.cell? ⟨wr.heap.size, 1, none⟩ = some (.slice A2 x[p + 1].2.1.length c2))
              have t2 := fun t : UpT W0 => cell_up t (kb.cell 2 : W0.cell? ⟨wr.heap.size, 2, none⟩ = some (.string x[p + 1].2.2))
              have t5 := fun t : UpT W0 => cell_up t ((kT.up uA).cell 0 : W0.cell? ⟨w.heap.size, 0, none⟩ = some (.slice (some ⟨g, off, none⟩) x.length c0))
              clear hW
              have t8 := fun t : UpT W0 => cell_up t ((uA.cell (cell_lt hp0)).trans hp0)
              have t9 := fun t : UpT W0 => cell_up t ((uA.cell (cell_lt hp1)).trans hp1)
              refine wp_region_up (by kernel_rfl) (by kernel_rfl) ?_
              repeat (go_big_quiet_step ((first | (go_at_call 121; exact up_call (CI.out _ (uA.trans (UpT.up _))) (UpT.up _)) | (go_at_call 73; exact up_call (CC.out _ (uA.trans (UpT.up _))) (UpT.up _)))))
              refine wpQuiet_nil ?_
              rintro _ ⟨⟨w1, u1⟩, rfl⟩
              go_wp2_with fail
              go_ret
              exact ⟨by rw [HE.out]; first | done | rfl, ((uu0.trans hu).trans uA).trans u1⟩
            · have HN : Hid (∀ i (h : i < x.length), i < p + 1 + 1 → nodeB x[i] = true ∧ (0 < i → locLt (x[i - 1].1, x[i - 1].2.1) (x[i].1, x[i].2.1) = true)) := fun i h hi2 => by
                by_cases e : i = p + 1
                · subst e
                  exact ⟨hi, fun _ => by simpa only [Nat.add_sub_cancel] using hL⟩
                · exact HA.out i h (by omega)
              rw [hL] at cc
              have CC := Lib.hid cc
              clear cc hL hi
              go_wp2_with fail
              generalize hW : (wr.alloc (.cells #[.string x[p + 1].1, .slice A2 x[p + 1].2.1.length c2, .string x[p + 1].2.2] 119)) = W0 at *
              have t0 := fun t : UpT W0 => cell_up t (kb.cell 0 : W0.cell? ⟨wr.heap.size, 0, none⟩ = some (.string x[p + 1].1))
              have t1 := fun t : UpT W0 => cell_up t (kb.cell 1 : W0.cell? ⟨wr.heap.size, 1, none⟩ = some (.slice A2 x[p + 1].2.1.length c2))
              have t2 := fun t : UpT W0 => cell_up t (kb.cell 2 : W0.cell? ⟨wr.heap.size, 2, none⟩ = some (.string x[p + 1].2.2))
              have t5 := fun t : UpT W0 => cell_up t ((kT.up uA).cell 0 : W0.cell? ⟨w.heap.size, 0, none⟩ = some (.slice (some ⟨g, off, none⟩) x.length c0))
              clear hW
              have t8 := fun t : UpT W0 => cell_up t ((uA.cell (cell_lt hp0)).trans hp0)
              have t9 := fun t : UpT W0 => cell_up t ((uA.cell (cell_lt hp1)).trans hp1)
              refine wp_region_up (by kernel_rfl) (by kernel_rfl) ?_
              repeat (go_big_quiet_step ((first | (go_at_call 121; exact up_call (CI.out _ (uA.trans (UpT.up _))) (UpT.up _)) | (go_at_call 73; exact up_call (CC.out _ (uA.trans (UpT.up _))) (UpT.up _)))))
              refine wpQuiet_nil ?_
              rintro _ ⟨⟨w1, u1⟩, rfl⟩
              go_wp2_with fail
              go_roundw
              case rel => exact ⟨p + 1 + 1, by omega, by go_num, HN, (hu.trans uA).trans u1⟩
              case measure => simp [intOf]; omega
      · have HE := Lib.hid (treeB_t (l := x) ⟨h120, fun i h => HA.out i h (by omega)⟩)
        go_wp2_with fail
        go_ret
        exact ⟨by rw [HE.out]; first | done | rfl, uu0.trans hu⟩
  · have HE := Lib.hid (treeB_f (l := x) fun hh => h120 hh.1)
    go_enter Tryz.func70, Tryz.ntmps70
    go_wp2_with fail
    go_ret
    exact ⟨by rw [HE.out]; first | done | rfl, uu0⟩
end Go.Proofs.YtehhgogmbpdpbaaGreatDoor

namespace Go.Proofs.YtehhgogmbpdpbaaGreatDoor
open Go.RowKit
set_option linter.unusedVariables false
set_option linter.unusedSimpArgs false

abbrev locOf (x : TNode) : ByteArray × List ByteArray := (x.1, x.2.1)
def posN (x : TTree) (l : ByteArray × List ByteArray) : Nat := (x.takeWhile fun n => locLt (locOf n) l).length
def hasN (x : TTree) (l : ByteArray × List ByteArray) : Bool := if h : posN x l < x.length then decide (locOf x[posN x l] = l) else false
theorem posN_le (x : TTree) (l : ByteArray × List ByteArray) : posN x l ≤ x.length := tw_le _ _
theorem tw_len_eq {α : Type} (p : α → Bool) : ∀ (l : List α) (i : Nat), i ≤ l.length → (∀ a (h : a < l.length), a < i → p l[a] = true) → (∀ h : i < l.length, p l[i] = false) → (l.takeWhile p).length = i
  | [], i, hi, _, _ => by simp at hi; subst hi; rfl
  | x :: l, i, hi, h1, h2 => by
    cases i with
    | zero =>
      have := h2 (by simp)
      rw [List.takeWhile_cons_of_neg (by simpa using this)]; rfl
    | succ i =>
      have h0 := h1 0 (by simp) (by omega)
      rw [List.takeWhile_cons_of_pos (by simpa using h0)]
      have := tw_len_eq p l i (by simpa using hi) (fun a ha hai => by have := h1 (a + 1) (by simpa using ha) (by omega); simpa using this) (fun h => by have := h2 (by simpa using h); simpa using this)
      simp [this]
theorem sorted_pair {x : TTree} (h : TreeP x) : ∀ (d a : Nat) (hb : a + d + 1 < x.length), locLt (locOf (x[a]'(by omega))) (locOf x[a + d + 1]) = true
  | 0, a, hb => by
    have := (h.2 (a + 1) hb).2 (by omega)
    simpa only [Nat.add_sub_cancel] using this
  | d + 1, a, hb => by
    have h1 := sorted_pair h d a (by omega)
    have h2 := (h.2 (a + (d + 1) + 1) hb).2 (by omega)
    simp only [Nat.add_sub_cancel] at h2
    exact lo_loc.tr _ _ _ h1 h2
theorem sorted_lt {x : TTree} (h : TreeP x) {a b : Nat} (hab : a < b) (hb : b < x.length) : locLt (locOf (x[a]'(by omega))) (locOf x[b]) = true := by
  have := sorted_pair h (b - a - 1) a (by omega)
  have e : a + (b - a - 1) + 1 = b := by omega
  simp only [e] at this
  exact this
theorem posN_eq {x : TTree} {l : ByteArray × List ByteArray} {i : Nat} (hi : i ≤ x.length) (h1 : ∀ a (h : a < x.length), a < i → locLt (locOf x[a]) l = true) (h2 : ∀ h : i < x.length, locLt (locOf x[i]) l = false) : posN x l = i := tw_len_eq _ x i hi h1 h2
set_option maxHeartbeats 4000000 in
theorem c_place1 (a b : TNode) (v u : Value) (w : World) (ha : AV shNode w v a) (hb : AV shNode w u b) (sa : Small a.2.1) (sb : Small b.2.1) (htab : Tab w) :
    Calls Tryz.prog 222 #[v, u] w (RetV (.int .i64 (cmpBy locLt (locOf a) (locOf b))) w) := by
  obtain ⟨cs, rfl, ha⟩ := ha
  obtain ⟨A1, c1, rfl, a0, a1, a2⟩ := openNode ha
  obtain ⟨ds, rfl, hb⟩ := hb
  obtain ⟨B1, d1, rfl, b0, b1, b2⟩ := openNode hb
  obtain ⟨x0, x1, x2⟩ := a
  obtain ⟨y0, y1, y2⟩ := b
  simp only at a0 a1 a2 b0 b1 b2 sa sb
  clear ha hb
  have SA := Lib.hid sa
  have SB := Lib.hid sb
  clear sa sb
  have uu : Up w ((w.alloc (.cells #[.string x0, .slice A1 x1.length c1, .string x2] 119)).alloc (.cells #[.string y0, .slice B1 y1.length d1, .string y2] 119)) := ((Up.refl w).alloc _).alloc _
  have cc := fun W (hW : Up w W) => c_compareLocations x0 y0 x1 y1 A1 B1 c1 d1 W (SR.up good_S a1 hW) (SR.up good_S b1 hW) SA.out SB.out (tab_up htab hW)
  generalize cmpBy locLt (x0, x1) (y0, y1) = z at *
  have CC := Lib.hid cc
  clear cc
  go_enter Tryz.func222, Tryz.ntmps222
  go_wp2_with fail
  refine (CC.out _ uu).mono ?_
  rintro e w1 ⟨rfl, u1⟩
  go_wp2_with fail
  go_ret
  exact ⟨rfl, uu.trans u1⟩
set_option maxRecDepth 100000 in
set_option maxHeartbeats 8000000 in
theorem c_BinarySearch (x : TTree) (hx : TreeP x) (sx : ∀ i (h : i < x.length), Small x[i].2.1) (A : Option Addr) (c : Nat) (t : TNode) (B : Option Addr) (d : Nat) (w : World) (h : SRW shNode w A c x) (k : SRW shS w B d t.2.1) (t0 : t.1.size ≤ maxLen) (t2 : t.2.2.size ≤ maxLen) (st : Small t.2.1) (htab : Tab w) :
    Calls Tryz.prog 221 #[.slice A x.length c, .agg #[.string t.1, .slice B t.2.1.length d, .string t.2.2], .func (.func 222) #[] #[]] w (RetV (.tuple #[.int .i64 (posN x (locOf t)), .bool (hasN x (locOf t))]) w) := by
  have hlen := h.len_le
  have h120 := hx.1
  have HX := Lib.hid hx
  have SX := Lib.hid sx
  have ST := Lib.hid st
  clear hx sx st
  have kB0 := Bk.new w 119 #[.string t.1, .slice B t.2.1.length d, .string t.2.2]
  have uu0 : Up w (w.alloc (.cells #[.string t.1, .slice B t.2.1.length d, .string t.2.2] 119)) := (Up.refl w).alloc _
  go_enter Tryz.func221, Tryz.ntmps221
  go_wp2_with fail
  go_loopw [9, 10] (fun i j wr => ∃ lo hi : Nat, lo ≤ hi ∧ hi ≤ x.length ∧ i = .int .i64 lo ∧ j = .int .i64 hi ∧ Hid ((∀ a (h : a < x.length), a < lo → locLt (locOf x[a]) (locOf t) = true) ∧ (∀ a (h : a < x.length), hi ≤ a → locLt (locOf x[a]) (locOf t) = false)) ∧ Up (w.alloc (.cells #[.string t.1, .slice B t.2.1.length d, .string t.2.2] 119)) wr) (fun i j _ => (intOf j).toNat - (intOf i).toNat)
  case atStart => exact ⟨0, x.length, Nat.zero_le _, Nat.le_refl _, rfl, rfl, ⟨fun a h ha => absurd ha (by omega), fun a h ha => absurd h (by omega)⟩, Up.refl _⟩
  case round =>
    obtain ⟨lo, hi, hlh, hhl, rfl, rfl, HA, hu⟩ := hrel
    have kB := kB0.up hu
    have q0 := fun t' : UpT wr => cell_up t' (kB.cell 0 : wr.cell? ⟨w.heap.size, 0, none⟩ = some (.string t.1))
    have q1 := fun t' : UpT wr => cell_up t' (kB.cell 1 : wr.cell? ⟨w.heap.size, 1, none⟩ = some (.slice B t.2.1.length d))
    have q2 := fun t' : UpT wr => cell_up t' (kB.cell 2 : wr.cell? ⟨w.heap.size, 2, none⟩ = some (.string t.2.2))
    have bt : ∀ W, Up wr W → AV shNode W (.agg #[.string t.1, .slice B t.2.1.length d, .string t.2.2]) t := fun W hW => ⟨_, rfl, mkNode (x := t) t0 (SR.up good_S k ((uu0.trans hu).trans hW)) t2⟩
    by_cases hlt : lo < hi
    · obtain ⟨m, hm⟩ : ∃ m, m = (lo + hi) / 2 := ⟨_, rfl⟩
      have hm1 : lo ≤ m := by omega
      have hm2 : m < hi := by omega
      have hml : m < x.length := by omega
      have hmi : ((lo : Int) + (hi : Int)) / 2 = (m : Int) := by omega
      clear hm
      obtain ⟨g, off, A2, c2, rfl, _, hgl, hc0, hc1, hc2, b0, b1, b2, _⟩ := atNode (h.up good_Node (uu0.trans hu)) hml
      have p0 := fun t' : UpT wr => cell_up t' hc0
      have p1 := fun t' : UpT wr => cell_up t' hc1
      have p2 := fun t' : UpT wr => cell_up t' hc2
      have cc := fun W (hW : Up wr W) => c_place1 x[m] t _ _ W (AV.up good_Node ⟨_, rfl, mkNode (x := x[m]) b0 b1 b2⟩ hW) (bt W hW) (SX.out m hml) ST.out (tab_up htab ((uu0.trans hu).trans hW))
      cases hL : locLt (locOf x[m]) (locOf t)
      · have HN : Hid ((∀ a (h : a < x.length), a < lo → locLt (locOf x[a]) (locOf t) = true) ∧ (∀ a (h : a < x.length), m ≤ a → locLt (locOf x[a]) (locOf t) = false)) := ⟨HA.out.1, fun a h ha => by
          cases hq : locLt (locOf x[a]) (locOf t)
          · rfl
          · rcases Nat.eq_or_lt_of_le ha with e | e
            · subst e; rw [hL] at hq; cases hq
            · have := lo_loc.tr _ _ _ (sorted_lt HX.out e h) hq
              rw [hL] at this; cases this⟩
        have hz := (cmpBy_nonneg lo_loc _ _).2 hL
        generalize cmpBy locLt (locOf x[m]) (locOf t) = z at cc hz
        have CC := Lib.hid cc
        clear cc hL
        go_wp2_with fail
        refine wp_region_up (by kernel_rfl) (by kernel_rfl) ?_
        repeat (go_big_quiet_step ((go_at_call 222; exact up_call (CC.out _ (UpT.up _)) (UpT.up _))))
        refine wpQuiet_nil ?_
        rintro _ ⟨⟨w1, u1⟩, rfl⟩
        go_wp2_with fail
        go_roundw
        case rel => exact ⟨lo, m, by omega, by omega, rfl, rfl, HN, hu.trans u1⟩
        case measure => simp [intOf]; omega
      · have HN : Hid ((∀ a (h : a < x.length), a < m + 1 → locLt (locOf x[a]) (locOf t) = true) ∧ (∀ a (h : a < x.length), hi ≤ a → locLt (locOf x[a]) (locOf t) = false)) := ⟨fun a h ha => by
          rcases Nat.lt_or_ge a m with e | e
          · exact lo_loc.tr _ _ _ (sorted_lt HX.out e hml) hL
          · obtain rfl : a = m := (by omega)
            exact hL, HA.out.2⟩
        have hz : cmpBy locLt (locOf x[m]) (locOf t) = -1 := cmpBy_lt hL
        rw [hz] at cc
        have CC := Lib.hid cc
        clear cc hL hz
        go_wp2_with fail
        refine wp_region_up (by kernel_rfl) (by kernel_rfl) ?_
        repeat (go_big_quiet_step ((go_at_call 222; exact up_call (CC.out _ (UpT.up _)) (UpT.up _))))
        refine wpQuiet_nil ?_
        rintro _ ⟨⟨w1, u1⟩, rfl⟩
        go_wp2_with fail
        go_roundw
        case rel => exact ⟨m + 1, hi, by omega, by omega, by go_num, rfl, HN, hu.trans u1⟩
        case measure => simp [intOf]; omega
    · obtain rfl : lo = hi := by omega
      have hpos : posN x (locOf t) = lo := posN_eq hhl HA.out.1 (fun hq => HA.out.2 lo hq (Nat.le_refl _))
      have HP := Lib.hid hpos
      clear hlt
      by_cases hlx : lo < x.length
      · have hhas : hasN x (locOf t) = decide (locOf x[lo] = locOf t) := by
          unfold hasN
          rw [dif_pos (by rw [hpos]; exact hlx)]
          simp only [hpos]
        have HH := Lib.hid hhas
        clear hpos hhas
        obtain ⟨g, off, A2, c2, rfl, _, hgl, hc0, hc1, hc2, b0, b1, b2, _⟩ := atNode (h.up good_Node (uu0.trans hu)) hlx
        have p0 := fun t' : UpT wr => cell_up t' hc0
        have p1 := fun t' : UpT wr => cell_up t' hc1
        have p2 := fun t' : UpT wr => cell_up t' hc2
        have cc := fun W (hW : Up wr W) => c_place1 x[lo] t _ _ W (AV.up good_Node ⟨_, rfl, mkNode (x := x[lo]) b0 b1 b2⟩ hW) (bt W hW) (SX.out lo hlx) ST.out (tab_up htab ((uu0.trans hu).trans hW))
        by_cases he : locOf x[lo] = locOf t
        · have hz : cmpBy locLt (locOf x[lo]) (locOf t) = 0 := (cmpBy_zero lo_loc _ _).2 he
          rw [hz] at cc
          have CC := Lib.hid cc
          have HQ := Lib.hid (HH.out.trans (decide_eq_true he))
          clear cc hz he HH
          go_wp2_with fail
          refine wp_region_up (by kernel_rfl) (by kernel_rfl) ?_
          repeat (go_big_quiet_step ((go_at_call 222; exact up_call (CC.out _ (UpT.up _)) (UpT.up _))))
          refine wpQuiet_nil ?_
          rintro _ ⟨⟨w1, u1⟩, rfl⟩
          go_wp2_with fail
          go_ret2
          exact ⟨by rw [HP.out, HQ.out]; first | done | rfl, (uu0.trans hu).trans u1⟩
        · have hz : ¬ cmpBy locLt (locOf x[lo]) (locOf t) = 0 := fun e => he ((cmpBy_zero lo_loc _ _).1 e)
          have HQ := Lib.hid (HH.out.trans (decide_eq_false he))
          generalize cmpBy locLt (locOf x[lo]) (locOf t) = z at cc hz
          have hzb : (z == 0) = false := by simpa using hz
          have CC := Lib.hid cc
          clear cc hz he HH
          go_wp2_with fail
          refine wp_region_up (by kernel_rfl) (by kernel_rfl) ?_
          repeat (go_big_quiet_step ((go_at_call 222; exact up_call (CC.out _ (UpT.up _)) (UpT.up _))))
          refine wpQuiet_nil ?_
          rintro _ ⟨⟨w1, u1⟩, rfl⟩
          go_wp2_with fail
          go_ret2
          exact ⟨by rw [HP.out, HQ.out]; first | done | rfl, (uu0.trans hu).trans u1⟩
      · have hhas : hasN x (locOf t) = false := by
          unfold hasN
          rw [dif_neg (by rw [hpos]; exact hlx)]
        have HQ := Lib.hid hhas
        have hlb : decide ((lo : Int) < (x.length : Int)) = false := by simp; omega
        have CC : True := trivial
        clear hpos hhas
        go_wp2_with fail
        refine wp_region_up (by kernel_rfl) (by kernel_rfl) ?_
        repeat (go_big_quiet_step (fail))
        refine wpQuiet_nil ?_
        rintro _ ⟨⟨w1, u1⟩, rfl⟩
        go_wp2_with fail
        go_ret2
        exact ⟨by rw [HP.out, HQ.out]; first | done | rfl, (uu0.trans hu).trans u1⟩
end Go.Proofs.YtehhgogmbpdpbaaGreatDoor

namespace Go.Proofs.YtehhgogmbpdpbaaGreatDoor
open Go.RowKit
set_option linter.unusedVariables false
set_option linter.unusedSimpArgs false

abbrev TLoc : Type := ByteArray × List ByteArray
theorem treeP_iff {x : TTree} : TreeP x ↔ x.length ≤ 120 ∧ (∀ n ∈ x, nodeB n = true) ∧ x.Pairwise (fun a b => locLt (locOf a) (locOf b) = true) := by
  constructor
  · intro h
    refine ⟨h.1, fun n hn => ?_, List.pairwise_iff_getElem.2 fun i j hi hj hij => sorted_lt h hij hj⟩
    obtain ⟨i, hi, rfl⟩ := List.getElem_of_mem hn
    exact (h.2 i hi).1
  · rintro ⟨h1, h2, h3⟩
    exact ⟨h1, fun i hi => ⟨h2 _ (List.getElem_mem _), fun h0 => List.pairwise_iff_getElem.1 h3 (i - 1) i (by omega) hi (by omega)⟩⟩
theorem placeB_small {s : ByteArray} {xs : List ByteArray} (h : placeB s xs = true) : Small xs := fun i hi => by
  simp only [placeB, Bool.and_eq_true] at h
  have hs : SubsP xs := of_decide_eq_true h.2
  have := hs.2 i hi
  simp only [subB, Bool.and_eq_true, decide_eq_true_eq] at this
  omega
theorem nodeB_small {n : TNode} (h : nodeB n = true) : Small n.2.1 := by
  simp only [nodeB, Bool.and_eq_true] at h
  exact placeB_small h.1
theorem treeP_small {x : TTree} (h : TreeP x) : ∀ i (hi : i < x.length), Small x[i].2.1 := fun i hi => nodeB_small (h.2 i hi).1
theorem treeP_nil : TreeP [] := ⟨by simp, fun i h => absurd h (by simp)⟩

theorem lt_take (x : TTree) (l : TLoc) : ∀ n ∈ x.take (posN x l), locLt (locOf n) l = true := fun n hn => by
  unfold posN at hn
  rw [tw_take] at hn
  obtain ⟨i, hi, rfl⟩ := List.getElem_of_mem hn
  obtain ⟨h', hp⟩ := tw_all _ x i hi
  rw [tw_at _ x i hi h']
  exact hp
theorem ge_at (x : TTree) (l : TLoc) (h : posN x l < x.length) : locLt (locOf x[posN x l]) l = false := tw_stop _ x h
theorem has_at {x : TTree} {l : TLoc} (h : hasN x l = true) : ∃ hp : posN x l < x.length, locOf x[posN x l] = l := by
  unfold hasN at h
  by_cases hp : posN x l < x.length
  · rw [dif_pos hp] at h
    exact ⟨hp, of_decide_eq_true h⟩
  · rw [dif_neg hp] at h; cases h
theorem hasnt_at {x : TTree} {l : TLoc} (h : hasN x l = false) (hp : posN x l < x.length) : locOf x[posN x l] ≠ l := by
  unfold hasN at h
  rw [dif_pos hp] at h
  exact of_decide_eq_false h
/-- Where the elements behind a place begin. -/
def nextN (x : TTree) (l : TLoc) : Nat := if hasN x l = true then posN x l + 1 else posN x l
theorem gt_drop {x : TTree} (hx : TreeP x) (l : TLoc) : ∀ n ∈ x.drop (nextN x l), locLt l (locOf n) = true := fun n hn => by
  obtain ⟨j, hj, rfl⟩ := List.getElem_of_mem hn
  rw [List.getElem_drop]
  have hj' : nextN x l + j < x.length := by simp at hj; omega
  cases hh : hasN x l
  · have hnx : nextN x l = posN x l := by unfold nextN; rw [hh]; rfl
    have hp : posN x l < x.length := by omega
    have h1 := ge_at x l hp
    have h2 := hasnt_at hh hp
    have h3 : locLt l (locOf x[posN x l]) = true := by
      cases e : locLt l (locOf x[posN x l])
      · exact absurd (lo_loc.tri _ _ h1 e) h2
      · rfl
    rcases Nat.eq_zero_or_pos j with rfl | hjp
    · simpa only [hnx, Nat.add_zero] using h3
    · exact lo_loc.tr _ _ _ h3 (sorted_lt hx (by omega) hj')
  · obtain ⟨hp, he⟩ := has_at hh
    have hnx : nextN x l = posN x l + 1 := by unfold nextN; rw [hh]; rfl
    have := sorted_lt hx (a := posN x l) (b := nextN x l + j) (by omega) hj'
    rwa [he] at this

def putT (x : TTree) (l : TLoc) (v : ByteArray) : TTree := x.take (posN x l) ++ (l.1, l.2, v) :: x.drop (nextN x l)
theorem putT_len {x : TTree} {l : TLoc} {v : ByteArray} : (putT x l v).length = if hasN x l = true then x.length else x.length + 1 := by
  have := posN_le x l
  unfold putT nextN
  by_cases h : hasN x l = true
  · obtain ⟨hp, _⟩ := has_at h
    simp only [if_pos h, List.length_append, List.length_take, List.length_cons, List.length_drop]
    omega
  · simp only [if_neg h, List.length_append, List.length_take, List.length_cons, List.length_drop]
    omega
theorem putT_has {x : TTree} {l : TLoc} {v : ByteArray} (h : hasN x l = true) : ∃ hp : posN x l < x.length, putT x l v = x.set (posN x l) (x[posN x l].1, x[posN x l].2.1, v) := by
  obtain ⟨hp, he⟩ := has_at h
  refine ⟨hp, ?_⟩
  have e1 : x[posN x l].1 = l.1 := congrArg Prod.fst he
  have e2 : x[posN x l].2.1 = l.2 := congrArg Prod.snd he
  rw [e1, e2, List.set_eq_take_append_cons_drop, if_pos hp]
  unfold putT nextN
  rw [if_pos h]
theorem putT_hasnt {x : TTree} {l : TLoc} {v : ByteArray} (h : hasN x l = false) : putT x l v = x.take (posN x l) ++ (l.1, l.2, v) :: x.drop (posN x l) := by
  unfold putT nextN
  rw [h]
  rfl
theorem putT_P {x : TTree} {l : TLoc} {v : ByteArray} (hx : TreeP x) (hp : placeB l.1 l.2 = true) (hv : v.size ≤ 64) (hr : hasN x l = true ∨ x.length < 120) : TreeP (putT x l v) := by
  obtain ⟨h1, h2, h3⟩ := treeP_iff.1 hx
  refine treeP_iff.2 ⟨?_, fun n hn => ?_, ?_⟩
  · rw [putT_len]
    split
    · exact h1
    · rcases hr with h | h
      · contradiction
      · omega
  · rcases List.mem_append.1 hn with hn | hn
    · exact h2 n (List.mem_of_mem_take hn)
    · rcases List.mem_cons.1 hn with rfl | hn
      · simp only [nodeB, Bool.and_eq_true, decide_eq_true_eq]
        exact ⟨hp, hv⟩
      · exact h2 n (List.mem_of_mem_drop hn)
  · refine List.pairwise_append.2 ⟨h3.sublist (List.take_sublist _ _), List.pairwise_cons.2 ⟨fun n hn => gt_drop hx l n hn, h3.sublist (List.drop_sublist _ _)⟩, fun a ha b hb => ?_⟩
    have ha' := lt_take x l a ha
    rcases List.mem_cons.1 hb with rfl | hb
    · exact ha'
    · exact lo_loc.tr _ _ _ ha' (gt_drop hx l b hb)

/-- Whether subs begin with others. -/
def begB (xs ys : List ByteArray) : Bool := decide (ys.length ≤ xs.length ∧ xs.take ys.length = ys)
def atB (n : TNode) (l : TLoc) : Bool := decide (n.1 = l.1) && begB n.2.1 l.2
def killT (x : TTree) (l : TLoc) : TTree := x.filter fun n => !atB n l
theorem sub_P {x y : TTree} (hx : TreeP x) (h : y.Sublist x) : TreeP y := by
  obtain ⟨h1, h2, h3⟩ := treeP_iff.1 hx
  exact treeP_iff.2 ⟨Nat.le_trans h.length_le h1, fun n hn => h2 n (h.mem hn), h3.sublist h⟩
theorem killT_P {x : TTree} {l : TLoc} (hx : TreeP x) : TreeP (killT x l) := sub_P hx List.filter_sublist
/-- PutNode of what is right: the code, and the tree. -/
def putC (x : TTree) (l : TLoc) : Int := if hasN x l = false ∧ 120 ≤ x.length then 4 else 0
theorem putC_ok {x : TTree} {l : TLoc} (h : putC x l = 0) : hasN x l = true ∨ x.length < 120 := by
  unfold putC at h
  by_cases h1 : hasN x l = false ∧ 120 ≤ x.length
  · rw [if_pos h1] at h; cases h
  · cases e : hasN x l
    · exact .inr (by rw [e] at h1; simp at h1; omega)
    · exact .inl rfl
def putR (x : TTree) (l : TLoc) (v : ByteArray) : TTree := if putC x l = 0 then putT x l v else []
end Go.Proofs.YtehhgogmbpdpbaaGreatDoor
