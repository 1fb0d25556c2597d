/-
  Contracts of the laws' own helpers (sz..) over strings and numbers.
-/
import Derived.Test.YtgdcdfpnogiciaaRows
import Derived.Test.YtgdcdfpnogiciaaRep
namespace Go.Proofs.Ytgdcdfpnogiciaa
open Go.RowKit

set_option maxHeartbeats 400000 in
theorem c_szStringS (xs : List ByteArray) (A : Option Addr) (c : Nat) (left : Int) (w : World) (h : SRW shS w A c xs) (h0 : 0 ≤ left) (h1 : left ≤ 1048576) :
    Calls Try.prog 88 #[.slice A xs.length c, .int .i64 left] w (SzP left ((shL shS).sz xs) w) := by
  have hlen := h.len_le
  have hsz : (shL shS).sz xs = xs.length + (xs.map shS.sz).sum := rfl
  have HS := Lib.hid hsz; clear hsz
  go_enter Try.func88, Try.ntmps88
  go_wp2
  · go_ret
    exact SzP.no (by rw [HS.out]; omega) (Up.refl _)
  · go_loop [1, 5] (fun l i => ∃ k : Nat, k ≤ xs.length ∧ i = .int .i64 k ∧ l = .int .i64 (left - xs.length - psum shS.sz xs k) ∧ (xs.length + psum shS.sz xs k : Int) ≤ left) (fun _ i => xs.length - (intOf i).toNat)
    case atStart => exact ⟨0, Nat.zero_le _, rfl, by simp [psum_zero], by simp [psum_zero]; omega⟩
    case round =>
      obtain ⟨k, hk, rfl, rfl, hp⟩ := hrel
      by_cases hlt : k < xs.length
      · obtain ⟨g, off, rfl, _, _, hc, hb⟩ := h.at_S hlt
        have HP := Lib.hid (psum_succ shS.sz xs k hlt)
        have hle := psum_le shS.sz xs (k + 1)
        have hs : shS.sz xs[k] = xs[k].size := rfl
        rw [HP.out, hs] at hle
        have HS2 := Lib.hid hs; clear hs
        go_wp2
        · go_ret
          exact SzP.no (by rw [HS.out]; omega) (Up.refl _)
        · go_round
          case rel => exact ⟨k + 1, by omega, by go_num, by rw [HP.out, HS2.out]; go_num, by rw [HP.out, HS2.out]; omega⟩
          case measure => simp [intOf]; omega
      · have hk' : k = xs.length := by omega
        have HK := Lib.hid hk'; clear hk'
        go_wp2
        go_ret
        exact SzP.yes (by rw [HS.out, ← psum_all, ← HK.out]; omega) (by rw [HS.out, ← psum_all, ← HK.out]; omega) (Up.refl _)

end Go.Proofs.Ytgdcdfpnogiciaa
