/-
  Contracts of the laws' sz helpers, by genlaw.py
-/
import Derived.Test.YtgdcdfpnogiciaaRows
import Derived.Test.YtgdcdfpnogiciaaTy
import Derived.Test.YtgdcdfpnogiciaaRep2
import Derived.StillTailTactics
import Derived.Test.YtgdcdfpnogiciaaLh
namespace Go.Proofs.Ytgdcdfpnogiciaa
open Go.RowKit
set_option linter.unusedSimpArgs false
set_option linter.unusedVariables false

set_option maxHeartbeats 1000000 in
theorem c_szInt64S (xs : List Int) (A : Option Addr) (c : Nat) (left : Int) (w : World) (h : SRW shI w A c xs) (h0 : 0 ≤ left) (h1 : left ≤ 1048576) :
    Calls Try.prog 89 #[.slice A xs.length c, .int .i64 left] w (SzP left ((shL shI).sz xs) w) := by
  have hlen := h.len_le
  have HS : Hid ((shL shI).sz xs = xs.length) := by
    have : ∀ ys : List Int, (ys.map shI.sz).sum = 0 := fun ys => by induction ys with
      | nil => rfl
      | cons y ys ih => simp only [List.map_cons, List.sum_cons, ih]; rfl
    show xs.length + (xs.map shI.sz).sum = _
    rw [this]; rfl
  go_enter Try.func89, Try.ntmps89
  go_wp2
  · go_ret
    exact SzP.no (by rw [HS.out]; omega) (Up.refl _)
  · go_ret
    exact SzP.yes (by rw [HS.out]; omega) (by rw [HS.out]) (Up.refl _)







set_option maxHeartbeats 1000000 in
theorem c_szPage (v : Value) (x : TPage) (left : Int) (w : World) (h : AV shPage w v x) (h0 : 0 ≤ left) (h1 : left ≤ 1048576) :
    Calls Try.prog 60 #[v, .int .i64 left] w (SzP left (shPage.sz x) w) := by
  obtain ⟨cs, rfl, h⟩ := h
  obtain ⟨x0, x1, x2, x3⟩ := x
  have ho := openPage h
  try dsimp only at ho
  obtain ⟨A1, c1, A2, c2, A3, c3, rfl, b1, b2, b3⟩ := ho
  have HS := Lib.hid (show shPage.sz (x0, x1, x2, x3) = 0 + ((shL shS).sz x1 + ((shL shS).sz x2 + ((shL shI).sz x3))) from rfl)
  have kk0 : Bk (w.alloc (.cells #[.bool x0, .slice A1 x1.length c1, .slice A2 x2.length c2, .slice A3 x3.length c3] 78)) w.heap.size 78 #[.bool x0, .slice A1 x1.length c1, .slice A2 x2.length c2, .slice A3 x3.length c3] := Bk.new _ _ _
  have uu0 : Up w (w.alloc (.cells #[.bool x0, .slice A1 x1.length c1, .slice A2 x2.length c2, .slice A3 x3.length c3] 78)) := (Up.refl _).alloc _
  go_enter Try.func60, Try.ntmps60
  go_wp2_with fail
  refine (c_szStringS _ _ _ _ _ (b1.up good_S uu0) (by omega) (by omega)).mono ?_
  rintro e w1 ⟨rfl, u1⟩
  have uu1 := uu0.trans u1
  have kk1 := kk0.up u1
  have g1_1 : w1.cell? ⟨w.heap.size, 1, none⟩ = some (.slice A1 x1.length c1) := kk1.cell 1
  have g1_2 : w1.cell? ⟨w.heap.size, 2, none⟩ = some (.slice A2 x2.length c2) := kk1.cell 2
  have g1_3 : w1.cell? ⟨w.heap.size, 3, none⟩ = some (.slice A3 x3.length c3) := kk1.cell 3
  by_cases q0 : ¬ (((shL shS).sz x1 : Nat) : Int) ≤ left
  · rw [szR_no (by omega)]
    go_wp2_with fail
    go_ret
    exact SzP.no (by rw [HS.out]; omega) uu1
  replace q0 := Decidable.of_not_not q0
  rw [szR_yes q0]
  go_wp2_with fail
  refine (c_szStringS _ _ _ _ _ (b2.up good_S uu1) (by omega) (by omega)).mono ?_
  rintro e w2 ⟨rfl, u2⟩
  have uu2 := uu1.trans u2
  have kk2 := kk1.up u2
  have g2_2 : w2.cell? ⟨w.heap.size, 2, none⟩ = some (.slice A2 x2.length c2) := kk2.cell 2
  have g2_3 : w2.cell? ⟨w.heap.size, 3, none⟩ = some (.slice A3 x3.length c3) := kk2.cell 3
  by_cases q1 : ¬ (((shL shS).sz x2 : Nat) : Int) ≤ left - ((shL shS).sz x1 : Nat)
  · rw [szR_no (by omega)]
    go_wp2_with fail
    go_ret
    exact SzP.no (by rw [HS.out]; omega) uu2
  replace q1 := Decidable.of_not_not q1
  rw [szR_yes q1]
  go_wp2_with fail
  refine (c_szInt64S _ _ _ _ _ (b3.up good_I uu2) (by omega) (by omega)).mono ?_
  rintro e w3 ⟨rfl, u3⟩
  have uu3 := uu2.trans u3
  have kk3 := kk2.up u3
  have g3_3 : w3.cell? ⟨w.heap.size, 3, none⟩ = some (.slice A3 x3.length c3) := kk3.cell 3
  by_cases q2 : ¬ (((shL shI).sz x3 : Nat) : Int) ≤ left - ((shL shS).sz x1 : Nat) - ((shL shS).sz x2 : Nat)
  · rw [szR_no (by omega)]
    go_wp2_with fail
    go_ret
    exact SzP.no (by rw [HS.out]; omega) uu3
  replace q2 := Decidable.of_not_not q2
  rw [szR_yes q2]
  go_wp2_with fail
  go_ret
  exact SzP.yes (by rw [HS.out]; omega) (by rw [HS.out] <;> omega) uu3

set_option maxHeartbeats 1000000 in
theorem c_szSlot (v : Value) (x : TSlot) (left : Int) (w : World) (h : AV shSlot w v x) (h0 : 0 ≤ left) (h1 : left ≤ 1048576) :
    Calls Try.prog 41 #[v, .int .i64 left] w (SzP left (shSlot.sz x) w) := by
  obtain ⟨cs, rfl, h⟩ := h
  obtain ⟨x0, ⟨x1, x2, x3, x4⟩⟩ := x
  have ho := openSlot h
  try dsimp only at ho
  obtain ⟨A2, c2, A3, c3, A4, c4, rfl, b0, b2, b3, b4⟩ := ho
  have HS := Lib.hid (show shSlot.sz (x0, (x1, x2, x3, x4)) = 0 + (shPage.sz (x1, x2, x3, x4)) from rfl)
  have kk0 : Bk (w.alloc (.cells #[.int .i64 x0, .bool x1, .slice A2 x2.length c2, .slice A3 x3.length c3, .slice A4 x4.length c4] 80)) w.heap.size 80 #[.int .i64 x0, .bool x1, .slice A2 x2.length c2, .slice A3 x3.length c3, .slice A4 x4.length c4] := Bk.new _ _ _
  have uu0 : Up w (w.alloc (.cells #[.int .i64 x0, .bool x1, .slice A2 x2.length c2, .slice A3 x3.length c3, .slice A4 x4.length c4] 80)) := (Up.refl _).alloc _
  go_enter Try.func41, Try.ntmps41
  go_wp2_with fail
  refine (c_szPage _ (x1, x2, x3, x4) _ _ ⟨_, rfl, mkPage (x := (x1, x2, x3, x4)) (b2.up good_S uu0) (b3.up good_S uu0) (b4.up good_I uu0)⟩ (by omega) (by omega)).mono ?_
  rintro e w1 ⟨rfl, u1⟩
  have uu1 := uu0.trans u1
  have kk1 := kk0.up u1
  have g1_1 : w1.cell? ⟨w.heap.size, 1, none⟩ = some (.bool x1) := kk1.cell 1
  have g1_2 : w1.cell? ⟨w.heap.size, 2, none⟩ = some (.slice A2 x2.length c2) := kk1.cell 2
  have g1_3 : w1.cell? ⟨w.heap.size, 3, none⟩ = some (.slice A3 x3.length c3) := kk1.cell 3
  have g1_4 : w1.cell? ⟨w.heap.size, 4, none⟩ = some (.slice A4 x4.length c4) := kk1.cell 4
  by_cases q0 : ¬ ((shPage.sz (x1, x2, x3, x4) : Nat) : Int) ≤ left
  · rw [szR_no (by omega)]
    go_wp2_with fail
    go_ret
    exact SzP.no (by rw [HS.out]; omega) uu1
  replace q0 := Decidable.of_not_not q0
  rw [szR_yes q0]
  go_wp2_with fail
  go_ret
  exact SzP.yes (by rw [HS.out]; omega) (by rw [HS.out] <;> omega) uu1

set_option maxHeartbeats 1000000 in
theorem c_szSlotS (xs : List TSlot) (A : Option Addr) (c : Nat) (left : Int) (w : World) (h : SRW shSlot w A c xs) (h0 : 0 ≤ left) (h1 : left ≤ 1048576) :
    Calls Try.prog 26 #[.slice A xs.length c, .int .i64 left] w (SzP left ((shL shSlot).sz xs) w) := by
  have hlen := h.len_le
  have HS := Lib.hid (show (shL shSlot).sz xs = xs.length + (xs.map shSlot.sz).sum from rfl)
  go_enter Try.func26, Try.ntmps26
  go_wp2
  · go_ret
    exact SzP.no (by rw [HS.out]; omega) (Up.refl _)
  · go_loopw [1, 5] (fun l i wr => ∃ k : Nat, k ≤ xs.length ∧ i = .int .i64 k ∧ l = .int .i64 (left - xs.length - psum shSlot.sz xs k) ∧ (xs.length + psum shSlot.sz xs k : Int) ≤ left ∧ Up w wr) (fun _ i _ => xs.length - (intOf i).toNat)
    case atStart => exact ⟨0, Nat.zero_le _, rfl, by simp [psum_zero], by simp [psum_zero]; omega, Up.refl _⟩
    case round =>
      obtain ⟨k, hk, rfl, rfl, hp, hu⟩ := hrel
      by_cases hlt : k < xs.length
      · obtain ⟨g, off, A2, c2, A3, c3, A4, c4, rfl, _, _, hc0, hc1, hc2, hc3, hc4, b0, b2, b3, b4, _⟩ := atSlot (h.up good_Slot hu) hlt
        have HP := Lib.hid (psum_succ shSlot.sz xs k hlt)
        have hle := psum_le shSlot.sz xs (k + 1)
        rw [HP.out] at hle
        go_wp2_with fail
        refine (c_szSlot _ xs[k] _ _ ⟨_, rfl, mkSlot (x := xs[k]) b0 b2 b3 b4⟩ (by omega) (by omega)).mono ?_
        rintro e w1 ⟨rfl, hu1⟩
        by_cases hq : (shSlot.sz xs[k] : Int) ≤ left - xs.length - psum shSlot.sz xs k
        · rw [szR_yes hq]
          go_wp2_with fail
          go_roundw
          case rel => exact ⟨k + 1, by omega, by go_num, by rw [HP.out]; go_num, by rw [HP.out]; omega, hu.trans hu1⟩
          case measure => simp [intOf]; omega
        · rw [szR_no (by omega)]
          go_wp2_with fail
          go_ret
          exact SzP.no (by rw [HS.out]; omega) (hu.trans hu1)
      · have HK := Lib.hid (show k = xs.length by omega)
        go_wp2_with fail
        go_ret
        exact SzP.yes (by rw [HS.out, ← psum_all, ← HK.out]; omega) (by rw [HS.out, ← psum_all, ← HK.out]; omega) hu

set_option maxHeartbeats 1000000 in
theorem c_szBtree (v : Value) (x : TBtree) (left : Int) (w : World) (h : AV shBtree w v x) (h0 : 0 ≤ left) (h1 : left ≤ 1048576) :
    Calls Try.prog 10 #[v, .int .i64 left] w (SzP left (shBtree.sz x) w) := by
  obtain ⟨cs, rfl, h⟩ := h
  obtain ⟨x0, x1⟩ := x
  have ho := openBtree h
  try dsimp only at ho
  obtain ⟨A1, c1, rfl, b0, b1⟩ := ho
  have HS := Lib.hid (show shBtree.sz (x0, x1) = 0 + ((shL shSlot).sz x1) from rfl)
  have kk0 : Bk (w.alloc (.cells #[.int .i64 x0, .slice A1 x1.length c1] 31)) w.heap.size 31 #[.int .i64 x0, .slice A1 x1.length c1] := Bk.new _ _ _
  have uu0 : Up w (w.alloc (.cells #[.int .i64 x0, .slice A1 x1.length c1] 31)) := (Up.refl _).alloc _
  go_enter Try.func10, Try.ntmps10
  go_wp2_with fail
  refine (c_szSlotS _ _ _ _ _ (b1.up good_Slot uu0) (by omega) (by omega)).mono ?_
  rintro e w1 ⟨rfl, u1⟩
  have uu1 := uu0.trans u1
  have kk1 := kk0.up u1
  have g1_1 : w1.cell? ⟨w.heap.size, 1, none⟩ = some (.slice A1 x1.length c1) := kk1.cell 1
  by_cases q0 : ¬ (((shL shSlot).sz x1 : Nat) : Int) ≤ left
  · rw [szR_no (by omega)]
    go_wp2_with fail
    go_ret
    exact SzP.no (by rw [HS.out]; omega) uu1
  replace q0 := Decidable.of_not_not q0
  rw [szR_yes q0]
  go_wp2_with fail
  go_ret
  exact SzP.yes (by rw [HS.out]; omega) (by rw [HS.out] <;> omega) uu1














end Go.Proofs.Ytgdcdfpnogiciaa
