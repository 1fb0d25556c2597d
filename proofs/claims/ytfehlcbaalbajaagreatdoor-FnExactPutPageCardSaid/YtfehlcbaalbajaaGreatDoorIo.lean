/-
  The program's order and places: contracts.
-/
import Derived.Test.YtfehlcbaalbajaaGreatDoorNk
import Derived.Test.YtfehlcbaalbajaaGreatDoorSo
import Derived.Test.YtfehlcbaalbajaaGreatDoorFun
namespace Go.Proofs.YtfehlcbaalbajaaGreatDoor
open Go.RowKit
set_option linter.unusedVariables false
set_option linter.unusedSimpArgs false

theorem c_isNaNS (s : ByteArray) (w : World) : Calls Tryz.prog 189 #[.string s] w fun e w' => e = .returned (.bool false) ∧ w = w' := by
  have h : (s.toList == s.toList) = true := by simp
  go_enter Tryz.func189, Tryz.ntmps189
  go_wp2
  go_ret
  exact ⟨by first | rfl | simp, rfl⟩
theorem c_isNaNI (n : Int) (w : World) : Calls Tryz.prog 227 #[.int .i64 n] w fun e w' => e = .returned (.bool false) ∧ w = w' := by
  go_enter Tryz.func227, Tryz.ntmps227
  go_wp2
  go_ret
  exact ⟨by first | rfl | simp, rfl⟩
theorem c_CompareS (a b : ByteArray) (w : World) : Calls Tryz.prog 161 #[.string a, .string b] w fun e w' => e = .returned (.int .i64 (cmpBy bytesLt a b)) ∧ w = w' := by
  rcases lo_bytes.three a b with ⟨e1, e2, ne, e4⟩ | ⟨rfl, e1, e2, e4⟩ | ⟨e1, e2, ne, e4⟩
  all_goals
    have H := Lib.hid e4
    clear e4
    try (have hbe : (a.toList == b.toList) = false := by rw [str_beq]; simp [ne])
    try clear ne
    unfold bytesLt at e1 e2
    go_enter Tryz.func161, Tryz.ntmps161
    go_wp2_with (go_at_call 189; refine (c_isNaNS _ _).mono ?_; rintro e w' ⟨rfl, rfl⟩)
    go_ret
    exact ⟨by rw [H.out]; first | done | rfl, rfl⟩
theorem c_CompareI (a b : Int) (w : World) : Calls Tryz.prog 212 #[.int .i64 a, .int .i64 b] w fun e w' => e = .returned (.int .i64 (cmpBy intLt a b)) ∧ w = w' := by
  rcases lo_int.three a b with ⟨e1, e2, _, e4⟩ | ⟨rfl, e1, e2, e4⟩ | ⟨e1, e2, _, e4⟩
  all_goals
    have H := Lib.hid e4
    clear e4
    simp only [intLt, decide_eq_true_eq, decide_eq_false_iff_not] at e1 e2
    go_enter Tryz.func212, Tryz.ntmps212
    go_wp2_with (go_at_call 227; refine (c_isNaNI _ _).mono ?_; rintro e w' ⟨rfl, rfl⟩)
    go_ret
    exact ⟨by rw [H.out]; first | done | rfl, rfl⟩
theorem cmp_sub_tt {a b : ByteArray} (ha : canon a = true) (hb : canon b = true) : cmpBy subLt a b = cmpBy intLt (numOf a) (numOf b) := by simp [cmpBy, subLt, ha, hb]
theorem cmp_sub_tf {a b : ByteArray} (ha : canon a = true) (hb : canon b = false) : cmpBy subLt a b = -1 := by simp [cmpBy, subLt, ha, hb]
theorem cmp_sub_ft {a b : ByteArray} (ha : canon a = false) (hb : canon b = true) : cmpBy subLt a b = 1 := by simp [cmpBy, subLt, ha, hb]
theorem cmp_sub_ff {a b : ByteArray} (ha : canon a = false) (hb : canon b = false) : cmpBy subLt a b = cmpBy bytesLt a b := by simp [cmpBy, subLt, ha, hb]
set_option maxRecDepth 100000 in
set_option maxHeartbeats 4000000 in
theorem c_collate (a b : ByteArray) (w : World) (ha : a.size ≤ 2 ^ 62) (hb : b.size ≤ 2 ^ 62) (htab : Tab w) : Calls Tryz.prog 191 #[.string a, .string b] w (RetV (.int .i64 (cmpBy subLt a b)) w) := by
  cases hca : canon a <;> cases hcb : canon b
  all_goals
    first | have H := Lib.hid (cmp_sub_tt hca hcb) | have H := Lib.hid (cmp_sub_tf hca hcb) | have H := Lib.hid (cmp_sub_ft hca hcb) | have H := Lib.hid (cmp_sub_ff hca hcb)
    go_enter Tryz.func191, Tryz.ntmps191
    go_wp2_with fail
    refine (c_IsCanon a _ ha htab).mono ?_
    rintro e w1 ⟨rfl, u1⟩
    rw [hca]
    go_wp2_with fail
    refine (c_IsCanon b _ hb (tab_up htab u1)).mono ?_
    rintro e w2 ⟨rfl, u2⟩
    rw [hcb]
    have uu := u1.trans u2
    clear u1 u2
    first
      | (go_wp2_with fail
         refine (c_NumOf a _ ha).mono ?_
         rintro e w3 ⟨rfl, u3⟩
         go_wp2_with fail
         refine (c_NumOf b _ hb).mono ?_
         rintro e w4 ⟨rfl, u4⟩
         go_wp2_with fail
         refine (c_CompareI _ _ _).mono ?_
         rintro e w5 ⟨rfl, rfl⟩
         go_wp2_with fail
         go_ret
         exact ⟨by rw [H.out]; first | done | rfl, (uu.trans u3).trans u4⟩)
      | (go_wp2_with fail
         refine (c_CompareS _ _ _).mono ?_
         rintro e w5 ⟨rfl, rfl⟩
         go_wp2_with fail
         go_ret
         exact ⟨by rw [H.out]; first | done | rfl, uu⟩)
      | (go_wp2_with fail
         go_ret
         exact ⟨by rw [H.out]; first | done | rfl, uu⟩)
/-- Texts that are no longer than the laws let in. -/
abbrev Small (xs : List ByteArray) : Prop := ∀ i (h : i < xs.length), xs[i].size ≤ 1048576
set_option maxRecDepth 100000 in
set_option maxHeartbeats 4000000 in
theorem c_CompareFunc (xs ys : List ByteArray) (A B : Option Addr) (c d : Nat) (w : World) (h : SRW shS w A c xs) (k : SRW shS w B d ys) (hx : Small xs) (hy : Small ys) (htab : Tab w) :
    Calls Tryz.prog 190 #[.slice A xs.length c, .slice B ys.length d, .func (.func 191) #[] #[]] w (RetV (.int .i64 (cmpBy subsLt xs ys)) w) := by
  have hlen := h.len_le
  have klen := k.len_le
  have HX := Lib.hid hx
  have HY := Lib.hid hy
  clear hx hy
  go_enter Tryz.func190, Tryz.ntmps190
  go_wp2_with fail
  go_loopw [13] (fun i wr => ∃ k : Nat, k ≤ xs.length ∧ k ≤ ys.length ∧ i = .int .i64 k ∧ Hid (xs.take k = ys.take k) ∧ Up w wr) (fun i _ => xs.length - (intOf i).toNat)
  case atStart => exact ⟨0, Nat.zero_le _, Nat.zero_le _, rfl, rfl, Up.refl _⟩
  case round =>
    obtain ⟨j, hj, hj', rfl, HT, hu⟩ := hrel
    by_cases hlt : j < xs.length
    · by_cases hlt' : j < ys.length
      · obtain ⟨g, off, rfl, _, _, hc, hb1⟩ := (h.up good_S hu).at_S hlt
        obtain ⟨g', off', rfl, _, _, hc', hb2⟩ := (k.up good_S hu).at_S hlt'
        have hx1 := HX.out j hlt
        have hy1 := HY.out j hlt'
        by_cases he : xs[j] = ys[j]
        · have hz : cmpBy subLt xs[j] ys[j] = 0 := (cmpBy_zero lo_sub _ _).2 he
          have HE := Lib.hid he; clear he
          go_wp2_with fail
          refine (c_collate xs[j] ys[j] _ (by omega) (by omega) (tab_up htab hu)).mono ?_
          rintro e w1 ⟨rfl, u1⟩
          rw [hz]
          go_wp2_with fail
          go_roundw
          case rel => exact ⟨j + 1, by omega, by omega, by go_num, take_snoc_eq HT.out hlt hlt' HE.out, hu.trans u1⟩
          case measure => simp [intOf]; omega
        · have HE : Hid (cmpBy subsLt xs ys = cmpBy subLt xs[j] ys[j]) := cmp_lex_at lo_sub HT.out hlt hlt' he
          have hnz : ¬ cmpBy subLt xs[j] ys[j] = 0 := fun e => he ((cmpBy_zero lo_sub _ _).1 e)
          clear he
          go_wp2_with fail
          refine (c_collate xs[j] ys[j] _ (by omega) (by omega) (tab_up htab hu)).mono ?_
          rintro e w1 ⟨rfl, u1⟩
          generalize cmpBy subLt xs[j] ys[j] = z at *
          have hzb : (z != 0) = true := by simpa using hnz
          go_wp2_with fail
          go_ret
          exact ⟨by rw [HE.out]; first | done | rfl, hu.trans u1⟩
      · have HE : Hid (cmpBy subsLt xs ys = 1) := by
          have := cmp_lex_end lo_sub HT.out hj hj' (fun e => hlt' e.2)
          rw [if_neg (by omega), if_pos (by omega)] at this
          exact this
        obtain ⟨g, off, rfl, _, _, hc, hb1⟩ := (h.up good_S hu).at_S hlt
        clear HT
        go_wp2_with fail
        go_ret
        exact ⟨by rw [HE.out]; first | done | rfl, hu⟩
    · have HE : Hid (cmpBy subsLt xs ys = if xs.length < ys.length then -1 else 0) := by
        have := cmp_lex_end lo_sub HT.out hj hj' (fun e => hlt e.1)
        unfold Hid subsLt
        rw [this]
        split
        · rfl
        · rw [if_neg (by omega)]
      clear HT
      by_cases hl : xs.length < ys.length
      · rw [if_pos hl] at HE
        go_wp2_with fail
        go_ret
        exact ⟨by rw [HE.out]; first | done | rfl, hu⟩
      · rw [if_neg hl] at HE
        go_wp2_with fail
        go_ret
        exact ⟨by rw [HE.out]; first | done | rfl, hu⟩
theorem c_collateLists (xs ys : List ByteArray) (A B : Option Addr) (c d : Nat) (w : World) (h : SRW shS w A c xs) (k : SRW shS w B d ys) (hx : Small xs) (hy : Small ys) (htab : Tab w) :
    Calls Tryz.prog 162 #[.slice A xs.length c, .slice B ys.length d] w (RetV (.int .i64 (cmpBy subsLt xs ys)) w) := by
  have HX := Lib.hid hx
  have HY := Lib.hid hy
  clear hx hy
  go_enter Tryz.func162, Tryz.ntmps162
  go_wp2_with fail
  refine (c_CompareFunc xs ys A B c d _ h k HX.out HY.out htab).mono ?_
  rintro e w1 ⟨rfl, u1⟩
  go_wp2_with fail
  go_ret
  exact ⟨rfl, u1⟩
/-- cmp.Or of two numbers in a row that the caller has made. -/
theorem c_cmpOr (a b : Int) (g : Nat) (w : World) (hb : Bk w g 3 #[.int .i64 a, .int .i64 b]) : Calls Tryz.prog 160 #[.slice (some ⟨g, 0, none⟩) 2 2] w (RetV (.int .i64 (if a = 0 then b else a)) w) := by
  have c0 : w.cell? ⟨g, 0, none⟩ = some (.int .i64 a) := hb.cell 0
  have c1 : w.cell? ⟨g, 1, none⟩ = some (.int .i64 b) := hb.cell 1
  by_cases ha : a = 0
  · subst ha
    by_cases hbz : b = 0
    · subst hbz
      go_enter Tryz.func160, Tryz.ntmps160
      go_wp2_with fail
      go_loop [8] (fun i => i = .int .i64 0 ∨ i = .int .i64 1 ∨ i = .int .i64 2) (fun i => 2 - (intOf i).toNat)
      case atStart => exact .inl rfl
      case round =>
        rcases hrel with rfl | rfl | rfl
        · go_wp2_with fail
          go_round
          case rel => exact .inr (.inl rfl)
          case measure => simp [intOf]
        · go_wp2_with fail
          go_round
          case rel => exact .inr (.inr rfl)
          case measure => simp [intOf]
        · go_wp2_with fail
          go_ret
          exact ⟨rfl, Up.refl _⟩
    · have hbn : (b != 0) = true := by simpa using hbz
      go_enter Tryz.func160, Tryz.ntmps160
      go_wp2_with fail
      go_loop [8] (fun i => i = .int .i64 0 ∨ i = .int .i64 1) (fun i => 2 - (intOf i).toNat)
      case atStart => exact .inl rfl
      case round =>
        rcases hrel with rfl | rfl
        · go_wp2_with fail
          go_round
          case rel => exact .inr rfl
          case measure => simp [intOf]
        · go_wp2_with fail
          go_ret
          exact ⟨rfl, Up.refl _⟩
  · have han : (a != 0) = true := by simpa using ha
    go_enter Tryz.func160, Tryz.ntmps160
    go_wp2_with fail
    go_loop [8] (fun i => i = .int .i64 0) (fun i => 2 - (intOf i).toNat)
    case atStart => rfl
    case round =>
      subst hrel
      go_wp2_with fail
      go_ret
      exact ⟨rfl, Up.refl _⟩
theorem cmp_loc (a b : ByteArray) (xs ys : List ByteArray) : (if cmpBy bytesLt a b = 0 then cmpBy subsLt xs ys else cmpBy bytesLt a b) = cmpBy locLt (a, xs) (b, ys) := by
  rcases lo_bytes.three a b with ⟨e1, e2, ne, e4⟩ | ⟨rfl, e1, e2, e4⟩ | ⟨e1, e2, ne, e4⟩
  · rw [e4, if_neg (by decide)]; simp [cmpBy, locLt, thenLt, e1]
  · rw [e4, if_pos rfl]; simp [cmpBy, locLt, thenLt, e1]
  · rw [e4, if_neg (by decide)]; simp [cmpBy, locLt, thenLt, e1, e2]
set_option maxRecDepth 100000 in
set_option maxHeartbeats 4000000 in
theorem c_compareLocations (a b : ByteArray) (xs ys : List ByteArray) (A B : Option Addr) (c d : Nat) (w : World) (h : SRW shS w A c xs) (k : SRW shS w B d ys) (hx : Small xs) (hy : Small ys) (htab : Tab w) :
    Calls Tryz.prog 114 #[.string a, .slice A xs.length c, .string b, .slice B ys.length d] w (RetV (.int .i64 (cmpBy locLt (a, xs) (b, ys))) w) := by
  have HX := Lib.hid hx
  have HY := Lib.hid hy
  clear hx hy
  have HC := Lib.hid (cmp_loc a b xs ys)
  go_enter Tryz.func114, Tryz.ntmps114
  go_wp2_with fail
  refine (c_CompareS a b _).mono ?_
  rintro e w1 ⟨rfl, rfl⟩
  go_wp2_with fail
  refine (c_collateLists xs ys A B c d _ h k HX.out HY.out htab).mono ?_
  rintro e w1 ⟨rfl, u1⟩
  have hbk := Bk.new w1 3 #[.int .i64 (cmpBy bytesLt a b), .int .i64 (cmpBy subsLt xs ys)]
  have co : ∀ W, Bk W w1.heap.size 3 #[.int .i64 (cmpBy bytesLt a b), .int .i64 (cmpBy subsLt xs ys)] → Calls Tryz.prog 160 #[.slice (some ⟨w1.heap.size, 0, none⟩) 2 2] W (RetV (.int .i64 (cmpBy locLt (a, xs) (b, ys))) W) := fun W hW => by
    have := c_cmpOr (cmpBy bytesLt a b) (cmpBy subsLt xs ys) w1.heap.size W hW
    rw [HC.out] at this
    exact this
  generalize cmpBy bytesLt a b = z1 at *
  generalize cmpBy subsLt xs ys = z2 at *
  generalize cmpBy locLt (a, xs) (b, ys) = z3 at *
  have CO := Lib.hid co
  clear co HC
  go_wp2_with fail
  refine (CO.out _ hbk).mono ?_
  rintro e w2 ⟨rfl, u2⟩
  go_wp2_with fail
  go_ret
  exact ⟨rfl, (u1.alloc _).trans u2⟩
theorem c_isLetter (c : UInt8) (w : World) : Calls Tryz.prog 201 #[.int .u8 (c.toNat : Int)] w fun e w' => e = .returned (.bool (isLetter c)) ∧ w = w' := by
  unfold isLetter
  by_cases h1 : 97 ≤ c.toNat
  · by_cases h2 : c.toNat ≤ 122
    · have h1' : (97 : Int) ≤ (c.toNat : Int) := by omega
      have h2' : (c.toNat : Int) ≤ 122 := by omega
      go_enter Tryz.func201, Tryz.ntmps201
      go_wp2
      go_ret
      exact ⟨by simp [h1, h2], rfl⟩
    · have h1' : (97 : Int) ≤ (c.toNat : Int) := by omega
      have h2' : ¬ (c.toNat : Int) ≤ 122 := by omega
      have h3 : ¬ (c.toNat : Int) ≤ 90 := by omega
      have h3' : ¬ c.toNat ≤ 90 := by omega
      go_enter Tryz.func201, Tryz.ntmps201
      go_wp2
      go_ret
      exact ⟨by simp [h1, h2, h3'], rfl⟩
  · have h1' : ¬ (97 : Int) ≤ (c.toNat : Int) := by omega
    by_cases h3 : 65 ≤ c.toNat
    · by_cases h4 : c.toNat ≤ 90
      · have h3' : (65 : Int) ≤ (c.toNat : Int) := by omega
        have h4' : (c.toNat : Int) ≤ 90 := by omega
        go_enter Tryz.func201, Tryz.ntmps201
        go_wp2
        go_ret
        exact ⟨by simp [h1, h3, h4], rfl⟩
      · have h3' : (65 : Int) ≤ (c.toNat : Int) := by omega
        have h4' : ¬ (c.toNat : Int) ≤ 90 := by omega
        go_enter Tryz.func201, Tryz.ntmps201
        go_wp2
        go_ret
        exact ⟨by simp [h1, h3, h4], rfl⟩
    · have h3' : ¬ (65 : Int) ≤ (c.toNat : Int) := by omega
      go_enter Tryz.func201, Tryz.ntmps201
      go_wp2
      go_ret
      exact ⟨by simp [h1, h3], rfl⟩
theorem c_isDigit (c : UInt8) (w : World) : Calls Tryz.prog 202 #[.int .u8 (c.toNat : Int)] w fun e w' => e = .returned (.bool (isDig c)) ∧ w = w' := by
  unfold isDig
  by_cases h1 : 48 ≤ c.toNat
  · have h1' : (48 : Int) ≤ (c.toNat : Int) := by omega
    by_cases h2 : c.toNat ≤ 57
    · have h2' : (c.toNat : Int) ≤ 57 := by omega
      go_enter Tryz.func202, Tryz.ntmps202
      go_wp2
      go_ret
      exact ⟨by simp [h1, h2], rfl⟩
    · have h2' : ¬ (c.toNat : Int) ≤ 57 := by omega
      go_enter Tryz.func202, Tryz.ntmps202
      go_wp2
      go_ret
      exact ⟨by simp [h1, h2], rfl⟩
  · have h1' : ¬ (48 : Int) ≤ (c.toNat : Int) := by omega
    go_enter Tryz.func202, Tryz.ntmps202
    go_wp2
    go_ret
    exact ⟨by simp [h1], rfl⟩
theorem c_isLetterAt (c : UInt8) (z : Int) (w : World) (hz : z = (c.toNat : Int)) : Calls Tryz.prog 201 #[.int .u8 z] w fun e w' => e = .returned (.bool (isLetter c)) ∧ w = w' := by
  subst hz
  exact c_isLetter c w
theorem c_isDigitAt (c : UInt8) (z : Int) (w : World) (hz : z = (c.toNat : Int)) : Calls Tryz.prog 202 #[.int .u8 z] w fun e w' => e = .returned (.bool (isDig c)) ∧ w = w' := by
  subst hz
  exact c_isDigit c w
theorem c_SubOk (s : ByteArray) (w : World) : Calls Tryz.prog 204 #[.string s] w fun e w' => e = .returned (.bool (subB s)) ∧ w = w' := by
  unfold subB
  by_cases h1 : 1 ≤ s.size
  · go_enter Tryz.func204, Tryz.ntmps204
    go_wp2
    go_ret
    exact ⟨by simp [h1]; omega, rfl⟩
  · go_enter Tryz.func204, Tryz.ntmps204
    go_wp2
    go_ret
    exact ⟨by simp [h1], rfl⟩
theorem c_SubsOk1 (s : ByteArray) (w : World) : Calls Tryz.prog 203 #[.string s] w (BoolP (!subB s) w) := by
  go_enter Tryz.func203, Tryz.ntmps203
  go_wp2_with fail
  refine (c_SubOk s _).mono ?_
  rintro e w1 ⟨rfl, rfl⟩
  go_wp2_with fail
  go_ret
  exact ⟨rfl, Up.refl _⟩
theorem any_not_subs (xs : List ByteArray) (h : xs.length ≤ 4) : subsB xs = !(xs.any fun s => !subB s) := by
  cases e : xs.any (fun s => !subB s)
  · refine subsB_t ⟨h, fun i hi => ?_⟩
    rw [List.any_eq_false] at e
    have := e xs[i] (List.getElem_mem hi)
    simpa using this
  · rw [List.any_eq_true] at e
    obtain ⟨x, hx, hp⟩ := e
    obtain ⟨i, hi, rfl⟩ := List.getElem_of_mem hx
    refine subsB_f fun hh => ?_
    have := hh.2 i hi
    rw [this] at hp
    simp at hp
set_option maxHeartbeats 4000000 in
theorem c_SubsOk (xs : List ByteArray) (A : Option Addr) (c : Nat) (w : World) (h : SRW shS w A c xs) :
    Calls Tryz.prog 183 #[.slice A xs.length c] w (RetV (.bool (subsB xs)) w) := by
  have hlen := h.len_le
  have eg : ∀ args w, (callFunc 203 args).run Tryz.prog w = .ok (.enter 203 args) w := enters_of Tryz.func203 (by kernel_rfl) rfl
  by_cases h4 : xs.length ≤ 4
  · have HE := Lib.hid (any_not_subs xs h4)
    have EG := Lib.hid eg
    clear eg
    go_enter Tryz.func183, Tryz.ntmps183
    go_wp2_with fail
    refine (c_ContainsFuncString 203 #[] EG.out (fun s => !subB s) A c xs _ h (fun W x _ _ => c_SubsOk1 x W)).mono ?_
    rintro e w1 ⟨rfl, u1⟩
    generalize (xs.any fun s => !subB s) = b at *
    go_wp2_with fail
    go_ret
    exact ⟨by rw [HE.out]; first | done | rfl, u1⟩
  · have HE := Lib.hid (subsB_f (l := xs) fun hh => h4 hh.1)
    clear eg
    go_enter Tryz.func183, Tryz.ntmps183
    go_wp2_with fail
    go_ret
    exact ⟨by rw [HE.out]; first | done | rfl, Up.refl _⟩
set_option maxRecDepth 100000 in
set_option maxHeartbeats 4000000 in
theorem c_NameOk (s : ByteArray) (w : World) (hs : s.size ≤ maxLen) : Calls Tryz.prog 182 #[.string s] w (RetV (.bool (nameB s)) w) := by
  unfold maxLen at hs
  go_enter Tryz.func182, Tryz.ntmps182
  go_wp2_with fail
  go_loop [3] (fun i => ∃ k : Nat, k ≤ s.size ∧ i = .int .i64 k ∧ Hid (∀ i (h : i < s.size), i < k → chOk i s[i] = true)) (fun i => s.size - (intOf i).toNat)
  case atStart => exact ⟨0, Nat.zero_le _, rfl, fun i h hi => absurd hi (by omega)⟩
  case round =>
    obtain ⟨k, hk, rfl, HA⟩ := hrel
    by_cases hlt : k < s.size
    · cases hk2 : chOk k s[k]
      · have H := Lib.hid (nameB_f (s := s) fun h => by have := h.2.2 k hlt; rw [hk2] at this; cases this)
        by_cases hk0 : k = 0
        · subst hk0
          have hk3 : isLetter s[0] = false ∧ s[0] ≠ 37 := by simpa [chOk] using hk2
          have b37 := u8_nb 37 rfl hk3.2
          have n37 := u8_nn 37 rfl hk3.2
          have hk4 := hk3.1
          clear hk2 hk3
          go_wp2_with (first | (go_at_call 201; refine (c_isLetterAt s[0] _ _ rfl).mono ?_; rintro e w1 ⟨rfl, rfl⟩; rw [hk4]))
          go_ret
          exact retB (Lib.hid H.out.symm) (Up.refl _)
        · have hk3 : isLetter s[k] = false ∧ isDig s[k] = false := by simpa [chOk, hk0] using hk2
          obtain ⟨hk4, hk5⟩ := hk3
          have hki : ¬ (k : Int) = 0 := by omega
          have hkb : ((k : Int) == 0) = false := by simpa using hk0
          clear hk2
          go_wp2_with (first | (go_at_call 201; refine (c_isLetterAt s[k] _ _ rfl).mono ?_; rintro e w1 ⟨rfl, rfl⟩; rw [hk4]) | (go_at_call 202; refine (c_isDigitAt s[k] _ _ rfl).mono ?_; rintro e w1 ⟨rfl, rfl⟩; rw [hk5]))
          go_ret
          exact retB (Lib.hid H.out.symm) (Up.refl _)
      · have HN : Hid (∀ i (h : i < s.size), i < k + 1 → chOk i s[i] = true) := fun i h hi => by
          by_cases e : i = k
          · subst e; exact hk2
          · exact HA.out i h (by omega)
        cases hL : isLetter s[k]
        · by_cases hk0 : k = 0
          · subst hk0
            have h37 : s[0] = 37 := by simpa [chOk, hL] using hk2
            have e37 := u8_yb 37 rfl h37
            have HZ := Lib.hid (show (37 : Int) = (s[0].toNat : Int) from e37.symm)
            clear hk2 h37
            go_wp2_with (first | (go_at_call 201; refine (c_isLetterAt s[0] _ _ (by first | rfl | exact HZ.out)).mono ?_; rintro e w1 ⟨rfl, rfl⟩; rw [hL]))
            go_round
            case rel => exact ⟨1, by omega, by first | rfl | go_num, HN⟩
            case measure => simp [intOf]; omega
          · have hd : isDig s[k] = true := by simpa [chOk, hk0, hL] using hk2
            have hki : ¬ (k : Int) = 0 := by omega
            have hkb : ((k : Int) == 0) = false := by simpa using hk0
            clear hk2
            go_wp2_with (first | (go_at_call 201; refine (c_isLetterAt s[k] _ _ rfl).mono ?_; rintro e w1 ⟨rfl, rfl⟩; rw [hL]) | (go_at_call 202; refine (c_isDigitAt s[k] _ _ rfl).mono ?_; rintro e w1 ⟨rfl, rfl⟩; rw [hd]))
            go_round
            case rel => exact ⟨k + 1, by omega, by go_num, HN⟩
            case measure => simp [intOf]; omega
        · clear hk2
          go_wp2_with (first | (go_at_call 201; refine (c_isLetterAt s[k] _ _ rfl).mono ?_; rintro e w1 ⟨rfl, rfl⟩; rw [hL]))
          go_round
          case rel => exact ⟨k + 1, by omega, by go_num, HN⟩
          case measure => simp [intOf]; omega
    · obtain rfl : k = s.size := by omega
      by_cases h1 : 1 ≤ s.size
      · by_cases h2 : s.size ≤ 8
        · have H := Lib.hid (nameB_t (s := s) ⟨h1, h2, fun i h => HA.out i h h⟩)
          go_wp2_with fail
          go_ret
          exact ⟨by rw [H.out]; first | done | rfl | (simp; omega), Up.refl _⟩
        · have H := Lib.hid (nameB_f (s := s) fun h => h2 h.2.1)
          go_wp2_with fail
          go_ret
          exact ⟨by rw [H.out]; first | done | rfl | (simp; omega), Up.refl _⟩
      · have H := Lib.hid (nameB_f (s := s) fun h => h1 h.1)
        go_wp2_with fail
        go_ret
        exact ⟨by rw [H.out]; first | done | rfl | (simp; omega), Up.refl _⟩
theorem c_locationOk (s : ByteArray) (xs : List ByteArray) (A : Option Addr) (c : Nat) (w : World) (hs : s.size ≤ maxLen) (h : SRW shS w A c xs) :
    Calls Tryz.prog 157 #[.string s, .slice A xs.length c] w (RetV (.bool (placeB s xs)) w) := by
  unfold placeB
  cases hn : nameB s
  · go_enter Tryz.func157, Tryz.ntmps157
    go_wp2_with fail
    refine (c_NameOk s _ hs).mono ?_
    rintro e w1 ⟨rfl, u1⟩
    rw [hn]
    go_wp2_with fail
    go_ret
    exact ⟨rfl, u1⟩
  · go_enter Tryz.func157, Tryz.ntmps157
    go_wp2_with fail
    refine (c_NameOk s _ hs).mono ?_
    rintro e w1 ⟨rfl, u1⟩
    rw [hn]
    go_wp2_with fail
    refine (c_SubsOk xs A c _ (h.up good_S u1)).mono ?_
    rintro e w2 ⟨rfl, u2⟩
    go_wp2_with fail
    go_ret
    exact ⟨by simp, u1.trans u2⟩
end Go.Proofs.YtfehlcbaalbajaaGreatDoor
