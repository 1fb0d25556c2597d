/-
  The reference's GetSubs and KeyPlace.
-/
import Derived.Test.YtfehlcbaalbajaaGreatDoorDn
namespace Go.Proofs.YtfehlcbaalbajaaGreatDoor
open Go.RowKit
set_option linter.unusedVariables false
set_option linter.unusedSimpArgs false

def GsP (r : Option (List ByteArray)) (w : World) (e : Ending) (w' : World) : Prop :=
  Up w w' ∧ ∃ A c, match r with
    | some l => e = .returned (.tuple #[.slice A l.length c, .bool true]) ∧ SRW shS w' A c l
    | none => e = .returned (.tuple #[.slice A 0 c, .bool false]) ∧ SRW shS w' A c []
theorem bs_isEmpty (c : UInt8) (l : List UInt8) : (bs (c :: l)).toList.isEmpty = false := bs_ne (by simp)
theorem bs_nil_isEmpty : (bs []).toList.isEmpty = true := by rw [ByteArray.toList_eq]; rfl
theorem cinfo_StrG : (Tryz.prog.info? 9).map (fun i => (i.zero, i.size, i.bytes)) = some (some (.string ⟨#[]⟩), 1, 16) := by kernel_rfl
theorem SR.nilA {α : Type} {s : Sh α} (w : World) (lo hi : Nat) (A : Option Addr) : SR s w lo hi A 0 [] := ⟨Nat.le_refl _, Nat.zero_le _, fun h => absurd h (by simp)⟩
set_option maxRecDepth 100000 in
set_option maxHeartbeats 8000000 in
theorem c_specGetSubs (s : ByteArray) (w : World) (hs : s.size ≤ 1048576) : Calls Tryz.prog 193 #[.string s] w (GsP (subsOf s.data.toList) w) := by
  obtain ⟨i0, hi0, hz0, hzc, hz2⟩ := info_parts cinfo_StrG
  have hll := slen s
  have so0 : SO shS (w.alloc (.cells #[] 9)) w.heap.size (w.alloc (.cells #[] 9)).heap.size (some ⟨w.heap.size, 0, none⟩) 0 ([] : List ByteArray) [] := ⟨Nat.le_refl _, Nat.zero_le _, .inl ⟨rfl, rfl, rfl⟩⟩
  have uu0 : Up w (w.alloc (.cells #[] 9)) := (Up.refl w).alloc _
  go_enter Tryz.func193, Tryz.ntmps193
  go_wp2_with fail
  go_loopw [5, 4] (fun lf out wr => ∃ (L : List UInt8) (O : List ByteArray) (D : Option Addr) (d : Nat) (bl : List Nat), lf = .string (bs L) ∧ out = .slice D O.length d ∧ O.length ≤ 5 ∧ L.length ≤ s.size ∧ Hid (decK 1 1999999999999999999 5 [] s.data.toList = decK 1 1999999999999999999 (5 - O.length) O L) ∧ SO shS wr w.heap.size wr.heap.size D d O bl ∧ bl.Nodup ∧ Up w wr) (fun lf _ _ => strSz lf)
  case atStart => exact ⟨s.data.toList, [], some ⟨w.heap.size, 0, none⟩, 0, [], rfl, rfl, by simp, by omega, Lib.hid rfl, so0, by simp, uu0⟩
  case round =>
    obtain ⟨L, O, D, d, bl, rfl, rfl, hO, hL, HK, so, nd, hu⟩ := hrel
    cases L with
    | nil =>
      have he := bs_nil_isEmpty
      have hd : decK 1 1999999999999999999 5 [] s.data.toList = some (O, []) := by
        rw [HK.out]
        obtain h5 | ⟨m, hm⟩ : 5 - O.length = 0 ∨ ∃ m, 5 - O.length = m + 1 := by
          rcases Nat.eq_zero_or_pos (5 - O.length) with h | h
          · exact .inl h
          · exact .inr ⟨5 - O.length - 1, by omega⟩
        · rw [h5]; rfl
        · rw [hm]; rfl
      have HD := Lib.hid hd
      clear hd HK
      go_wp2_with fail
      refine (c_l02Subs O D d _ (SR.of_own good_S so)).mono ?_
      rintro e w1 ⟨rfl, u1⟩
      cases hsb : subsB O
      · have HE : Hid (subsOf s.data.toList = none) := by
          unfold Hid subsOf getSubs
          rw [HD.out]
          show (if _ then _ else _) = _
          rw [if_neg (by rw [hsb]; simp)]
        go_wp2_with fail
        go_ret2
        rw [HE.out]
        exact ⟨(hu.trans u1).alloc _, _, _, rfl, SR.nilA _ _ _ _⟩
      · go_wp2_with fail
        refine (c_l02Put O D d _ ((SR.of_own good_S so).up good_S u1) (subsP_of hsb)).mono ?_
        rintro e w2 ⟨rfl, u2⟩
        have hbe := str_beq (bs (O.flatMap subKeyL)) s
        by_cases hq : O.flatMap subKeyL = s.data.toList
        · have HE : Hid (subsOf s.data.toList = some O) := by
            unfold Hid subsOf getSubs
            rw [HD.out]
            show (if _ then _ else _) = _
            rw [if_pos ⟨fun _ => rfl, hsb, hq⟩]
          rw [decide_eq_true (by rw [hq]; rfl)] at hbe
          generalize bs (O.flatMap subKeyL) = T at *
          clear hq
          go_wp2_with fail
          go_ret2
          rw [HE.out]
          exact ⟨(hu.trans u1).trans u2, _, _, rfl, ((SR.of_own good_S so).up good_S u1).up good_S u2⟩
        · have HE : Hid (subsOf s.data.toList = none) := by
            unfold Hid subsOf getSubs
            rw [HD.out]
            show (if _ then _ else _) = _
            rw [if_neg (fun hh => hq hh.2.2)]
          rw [decide_eq_false (fun hh => hq (by have := congrArg (fun x : ByteArray => x.data.toList) hh; simpa [bs] using this))] at hbe
          generalize bs (O.flatMap subKeyL) = T at *
          clear hq
          go_wp2_with fail
          go_ret2
          rw [HE.out]
          exact ⟨((hu.trans u1).trans u2).alloc _, _, _, rfl, SR.nilA _ _ _ _⟩
    | cons c l =>
      have he := bs_isEmpty c l
      have hbz := bs_size (c :: l)
      have hll1 : (c :: l).length = l.length + 1 := rfl
      by_cases hlt : O.length ≤ 4
      · have hk2 : decK 1 1999999999999999999 5 [] s.data.toList = match takeSub 1 1999999999999999999 (c :: l) with
          | none => none
          | some (t, r) => decK 1 1999999999999999999 (5 - (O.length + 1)) (O ++ [t]) r := by
          rw [HK.out]
          obtain ⟨m, hm⟩ : ∃ m, 5 - O.length = m + 1 := ⟨4 - O.length, by omega⟩
          have e2 : 5 - (O.length + 1) = m := by omega
          rw [hm, e2]
          rfl
        have ct := fun W => c_l02Take (bs (c :: l)) W (by omega) (by omega)
        have e9 : (bs (c :: l)).data.toList = c :: l := rfl
        rw [e9] at ct
        have htl := fun t r => takeSub_len (lo := 1) (hi := 1999999999999999999) (l := c :: l) (t := t) (r := r)
        have HK2 := Lib.hid hk2
        have CT := Lib.hid ct
        clear hk2 ct HK e9
        cases hts : takeSub 1 1999999999999999999 (c :: l) with
        | none =>
          have HE : Hid (subsOf s.data.toList = none) := by
            unfold Hid subsOf getSubs
            rw [HK2.out, hts]
            rfl
          rw [hts] at CT
          clear HK2 htl hts
          go_wp2_with fail
          refine (CT.out _).mono ?_
          rintro e w1 ⟨rfl, u1⟩
          unfold takeV
          go_wp2_with fail
          go_ret2
          rw [HE.out]
          exact ⟨(hu.trans u1).alloc _, _, _, rfl, SR.nilA _ _ _ _⟩
        | some p =>
          obtain ⟨t, r⟩ := p
          obtain ⟨hr1, hr2⟩ := htl t r hts
          have HK3 : Hid (decK 1 1999999999999999999 5 [] s.data.toList = decK 1 1999999999999999999 (5 - (O.length + 1)) (O ++ [t]) r) := by
            unfold Hid
            rw [HK2.out, hts]
          rw [hts] at CT
          clear HK2 htl hts
          have htm : t.size ≤ maxLen := by unfold maxLen; omega
          have hrz := bs_size r
          go_wp2_with fail
          refine (CT.out _).mono ?_
          rintro e w1 ⟨rfl, u1⟩
          unfold takeV
          have hu1 := hu.trans u1
          have so1 := so.up good_S u1
          have kq := Bk.new w1 9 #[.string t]
          have uq := (Up.refl w1).alloc (.cells #[.string t] 9)
          have ho : shS.own (w1.alloc (.cells #[.string t] 9)) w.heap.size (w1.alloc (.cells #[.string t] 9)).heap.size [.string t] t [] := ⟨⟨rfl, htm⟩, rfl⟩
          have hlo := hu1.size
          have hx1 : (O.length + 1) * i0.bytes ≤ 140737488355328 := by rw [hz2]; omega
          have hx2 : O.length + 1 ≤ maxLen := by unfold maxLen; omega
          go_wp2_with (at_builtin
                       refine wpList_app good_S rfl _ _ _ _ 9 rfl i0 _ Tryz.underlying44 hi0 hz0 hzc (by rfl) (lo := w.heap.size) (xs := O) (ys := [t]) (bl := bl) (bs := [[]]) (news := [.string t]) rfl rfl (so1.up good_S uq) (by simpa using nd) (Src.box (t := 9) Tryz.underlying44 kq (by simp [Value.oneCell']) (by rw [hzc]; rfl)) (Rowed.one good_S ho) (by simp; omega) hx1 hx2 ?_
                       intro D' d' bl' w2 hap
                       obtain ⟨so2, nd2, mem2, on2⟩ := hap)
          go_roundw
          case rel => exact ⟨r, O ++ [t], D', d', bl', rfl, by simp, by simp; omega, by omega, by rw [List.length_append]; exact HK3, so2, nd2, (hu1.trans uq).only on2 (fun y hy => (so1.in_ good_S y hy).1)⟩
          case measure => simp only [strSz]; omega
      · have HE : Hid (subsOf s.data.toList = none) := by
          unfold Hid subsOf getSubs
          have h5 : 5 - O.length = 0 := by omega
          rw [HK.out, h5, decK]
          unfold subsOut
          exact if_neg (fun hh => by have := hh.1 rfl; cases this)
        clear HK
        go_wp2_with fail
        go_ret2
        rw [HE.out]
        exact ⟨hu.alloc _, _, _, rfl, SR.nilA _ _ _ _⟩
end Go.Proofs.YtfehlcbaalbajaaGreatDoor
