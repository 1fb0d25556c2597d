/-
  The program's PutSubs: the keys of a list of subscripts.
-/
import Derived.Test.YtfehlcbaalbajaaGreatDoorPs
import Derived.Test.YtfehlcbaalbajaaGreatDoorKz
import Derived.Test.YtfehlcbaalbajaaGreatDoorIo
namespace Go.Proofs.YtfehlcbaalbajaaGreatDoor
open Go.RowKit
set_option linter.unusedVariables false
set_option linter.unusedSimpArgs false

set_option maxRecDepth 100000 in
set_option maxHeartbeats 8000000 in
theorem c_PutSubs (xs : List ByteArray) (A : Option Addr) (c : Nat) (w : World) (h : SRW shS w A c xs) (htab : Tab w) (hm : MaxL w) :
    Calls Tryz.prog 240 #[.slice A xs.length c] w (RetV (.string (bs (putSubsL xs))) w) := by
  cases hb : subsB xs
  · have HE : Hid (bs (putSubsL xs) = ⟨#[]⟩) := by unfold Hid putSubsL; rw [if_neg (by rw [hb]; simp)]; rfl
    go_enter Tryz.func240, Tryz.ntmps240
    go_wp2_with fail
    refine (c_SubsOk xs A c _ h).mono ?_
    rintro e w1 ⟨rfl, u1⟩
    rw [hb]
    go_wp2_with fail
    go_ret
    exact ⟨by rw [HE.out]; first | done | rfl, u1⟩
  · have HE : Hid (bs (putSubsL xs) = bs (xs.flatMap subKeyL)) := by unfold Hid putSubsL; rw [if_pos hb]
    have HP := Lib.hid (subsP_of hb)
    have hlen := h.len_le
    go_enter Tryz.func240, Tryz.ntmps240
    go_wp2_with fail
    refine (c_SubsOk xs A c _ h).mono ?_
    rintro e w1 ⟨rfl, u1⟩
    rw [hb]
    have h0 : 0 < w1.heap.size := Nat.lt_of_lt_of_le (by obtain ⟨m, hm⟩ := hm; exact cell_lt hm) u1.size
    have b0 : Bld8 w1.heap.size w1.heap.size (([] : List ByteArray).flatMap subKeyL) (w1.alloc (.cells #[.pointer none, .slice none 0 0] 169)) := bld_new _ _ (Bk.new w1 169 #[.pointer none, .slice none 0 0])
    have ku0 : Up w1 (w1.alloc (.cells #[.pointer none, .slice none 0 0] 169)) := (Up.refl w1).alloc _
    go_wp2_with fail
    go_loopw [11] (fun i wr => ∃ k : Nat, k ≤ xs.length ∧ i = .int .i64 k ∧ Bld8 w1.heap.size w1.heap.size ((xs.take k).flatMap subKeyL) wr ∧ Below w1.heap.size w1 wr) (fun i _ => xs.length - (intOf i).toNat)
    case atStart => exact ⟨0, Nat.zero_le _, rfl, b0, ku0⟩
    case round =>
      obtain ⟨k, hk, rfl, br, kr⟩ := hrel
      have hu : Up w wr := u1.trans kr
      by_cases hlt : k < xs.length
      · obtain ⟨g, off, rfl, _, _, hc, hb1⟩ := (h.up good_S hu).at_S hlt
        have hs := subB_size (HP.out.2 k hlt)
        have hl1 := keys_len (l := xs.take k) (fun x hx => subs_all HP.out x (List.mem_of_mem_take hx))
        have h4 := HP.out.1
        rw [List.length_take] at hl1
        have hsn : (xs.take (k + 1)).flatMap subKeyL = (xs.take k).flatMap subKeyL ++ subKeyL xs[k] := keys_snoc xs hlt
        have HS := Lib.hid hsn
        have hl2 : ((xs.take k).flatMap subKeyL).length ≤ 1099511627776 := by omega
        have hsz := kr.size
        have ck := c_putSub w1.heap.size w1.heap.size _ xs[k] wr br (by omega) hl2 hsz h0 (tab_up htab hu) (maxL_up hm hu)
        have CK := Lib.hid ck
        clear ck hsn hl1 hs h4 hl2
        go_wp2_with fail
        refine CK.out.mono ?_
        rintro e w2 ⟨rfl, b2, k2, o2⟩
        go_wp2_with fail
        go_roundw
        case rel => exact ⟨k + 1, by omega, by go_num, by rw [HS.out]; exact b2, kr.trans k2⟩
        case measure => simp [intOf]; omega
      · have ht : xs.take k = xs := List.take_of_length_le (by omega)
        rw [ht] at br
        clear ht
        have hsz := kr.size
        have cs := c_BString w1.heap.size w1.heap.size _ wr br hsz
        have CS := Lib.hid cs
        clear cs
        go_wp2_with fail
        refine CS.out.mono ?_
        rintro e w2 ⟨rfl, k2⟩
        go_wp2_with fail
        go_ret
        exact ⟨by rw [HE.out]; first | done | rfl, Up.below hu k2 u1.size⟩
end Go.Proofs.YtfehlcbaalbajaaGreatDoor
