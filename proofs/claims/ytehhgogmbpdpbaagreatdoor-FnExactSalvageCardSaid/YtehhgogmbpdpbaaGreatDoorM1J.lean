/-
  Contracts of the laws' own helpers (sz..) over strings and numbers.
  Contracts of the laws' sz helpers, by genlaw.py
  Contracts of the laws' to helpers, by genlaw.py
-/
import Derived.Test.YtehhgogmbpdpbaaGreatDoorRows
import Derived.Test.YtehhgogmbpdpbaaGreatDoorM1A
import Derived.Test.YtehhgogmbpdpbaaGreatDoorM1E
import Derived.StillTailTactics
namespace Go.Proofs.YtehhgogmbpdpbaaGreatDoor
open Go.RowKit

set_option maxHeartbeats 400000 in
theorem c_szStringS (xs : List ByteArray) (A : Option Addr) (c : Nat) (left : Int) (w : World) (h : SRW shS w A c xs) (h0 : 0 ≤ left) (h1 : left ≤ 1048576) :
    Calls Tryz.prog 69 #[.slice A xs.length c, .int .i64 left] w (SzP left ((shL shS).sz xs) w) := by
  have hlen := h.len_le
  have hsz : (shL shS).sz xs = xs.length + (xs.map shS.sz).sum := rfl
  have HS := Lib.hid hsz; clear hsz
  go_enter Tryz.func69, Tryz.ntmps69
  go_wp2
  · go_ret
    exact SzP.no (by rw [HS.out]; omega) (Up.refl _)
  · go_loop [1, 5] (fun l i => ∃ k : Nat, k ≤ xs.length ∧ i = .int .i64 k ∧ l = .int .i64 (left - xs.length - psum shS.sz xs k) ∧ (xs.length + psum shS.sz xs k : Int) ≤ left) (fun _ i => xs.length - (intOf i).toNat)
    case atStart => exact ⟨0, Nat.zero_le _, rfl, by simp [psum_zero], by simp [psum_zero]; omega⟩
    case round =>
      obtain ⟨k, hk, rfl, rfl, hp⟩ := hrel
      by_cases hlt : k < xs.length
      · obtain ⟨g, off, rfl, _, _, hc, hb⟩ := h.at_S hlt
        have HP := Lib.hid (psum_succ shS.sz xs k hlt)
        have hle := psum_le shS.sz xs (k + 1)
        have hs : shS.sz xs[k] = xs[k].size := rfl
        rw [HP.out, hs] at hle
        have HS2 := Lib.hid hs; clear hs
        go_wp2
        · go_ret
          exact SzP.no (by rw [HS.out]; omega) (Up.refl _)
        · go_round
          case rel => exact ⟨k + 1, by omega, by go_num, by rw [HP.out, HS2.out]; go_num, by rw [HP.out, HS2.out]; omega⟩
          case measure => simp [intOf]; omega
      · have hk' : k = xs.length := by omega
        have HK := Lib.hid hk'; clear hk'
        go_wp2
        go_ret
        exact SzP.yes (by rw [HS.out, ← psum_all, ← HK.out]; omega) (by rw [HS.out, ← psum_all, ← HK.out]; omega) (Up.refl _)

end Go.Proofs.YtehhgogmbpdpbaaGreatDoor

namespace Go.Proofs.YtehhgogmbpdpbaaGreatDoor
open Go.RowKit
set_option linter.unusedSimpArgs false
set_option linter.unusedVariables false

set_option maxHeartbeats 1000000 in
theorem c_szInt64S (xs : List Int) (A : Option Addr) (c : Nat) (left : Int) (w : World) (h : SRW shI w A c xs) (h0 : 0 ≤ left) (h1 : left ≤ 1048576) :
    Calls Tryz.prog 180 #[.slice A xs.length c, .int .i64 left] w (SzP left ((shL shI).sz xs) w) := by
  have hlen := h.len_le
  have HS : Hid ((shL shI).sz xs = xs.length) := by
    have : ∀ ys : List Int, (ys.map shI.sz).sum = 0 := fun ys => by induction ys with
      | nil => rfl
      | cons y ys ih => simp only [List.map_cons, List.sum_cons, ih]; rfl
    show xs.length + (xs.map shI.sz).sum = _
    rw [this]; rfl
  go_enter Tryz.func180, Tryz.ntmps180
  go_wp2
  · go_ret
    exact SzP.no (by rw [HS.out]; omega) (Up.refl _)
  · go_ret
    exact SzP.yes (by rw [HS.out]; omega) (by rw [HS.out]) (Up.refl _)







set_option maxHeartbeats 1000000 in
theorem c_szPage (v : Value) (x : TPage) (left : Int) (w : World) (h : AV shPage w v x) (h0 : 0 ≤ left) (h1 : left ≤ 1048576) :
    Calls Tryz.prog 132 #[v, .int .i64 left] w (SzP left (shPage.sz x) w) := by
  obtain ⟨cs, rfl, h⟩ := h
  obtain ⟨x0, x1, x2, x3⟩ := x
  have ho := openPage h
  try dsimp only at ho
  obtain ⟨A1, c1, A2, c2, A3, c3, rfl, b1, b2, b3⟩ := ho
  have HS := Lib.hid (show shPage.sz (x0, x1, x2, x3) = 0 + ((shL shS).sz x1 + ((shL shS).sz x2 + ((shL shI).sz x3))) from rfl)
  have kk0 : Bk (w.alloc (.cells #[.bool x0, .slice A1 x1.length c1, .slice A2 x2.length c2, .slice A3 x3.length c3] 131)) w.heap.size 131 #[.bool x0, .slice A1 x1.length c1, .slice A2 x2.length c2, .slice A3 x3.length c3] := Bk.new _ _ _
  have uu0 : Up w (w.alloc (.cells #[.bool x0, .slice A1 x1.length c1, .slice A2 x2.length c2, .slice A3 x3.length c3] 131)) := (Up.refl _).alloc _
  go_enter Tryz.func132, Tryz.ntmps132
  go_wp2_with fail
  refine (c_szStringS _ _ _ _ _ (b1.up good_S uu0) (by omega) (by omega)).mono ?_
  rintro e w1 ⟨rfl, u1⟩
  have uu1 := uu0.trans u1
  have kk1 := kk0.up u1
  have g1_1 : w1.cell? ⟨w.heap.size, 1, none⟩ = some (.slice A1 x1.length c1) := kk1.cell 1
  have g1_2 : w1.cell? ⟨w.heap.size, 2, none⟩ = some (.slice A2 x2.length c2) := kk1.cell 2
  have g1_3 : w1.cell? ⟨w.heap.size, 3, none⟩ = some (.slice A3 x3.length c3) := kk1.cell 3
  by_cases q0 : ¬ (((shL shS).sz x1 : Nat) : Int) ≤ left
  · rw [szR_no (by omega)]
    go_wp2_with fail
    go_ret
    exact SzP.no (by rw [HS.out]; omega) uu1
  replace q0 := Decidable.of_not_not q0
  rw [szR_yes q0]
  go_wp2_with fail
  refine (c_szStringS _ _ _ _ _ (b2.up good_S uu1) (by omega) (by omega)).mono ?_
  rintro e w2 ⟨rfl, u2⟩
  have uu2 := uu1.trans u2
  have kk2 := kk1.up u2
  have g2_2 : w2.cell? ⟨w.heap.size, 2, none⟩ = some (.slice A2 x2.length c2) := kk2.cell 2
  have g2_3 : w2.cell? ⟨w.heap.size, 3, none⟩ = some (.slice A3 x3.length c3) := kk2.cell 3
  by_cases q1 : ¬ (((shL shS).sz x2 : Nat) : Int) ≤ left - ((shL shS).sz x1 : Nat)
  · rw [szR_no (by omega)]
    go_wp2_with fail
    go_ret
    exact SzP.no (by rw [HS.out]; omega) uu2
  replace q1 := Decidable.of_not_not q1
  rw [szR_yes q1]
  go_wp2_with fail
  refine (c_szInt64S _ _ _ _ _ (b3.up good_I uu2) (by omega) (by omega)).mono ?_
  rintro e w3 ⟨rfl, u3⟩
  have uu3 := uu2.trans u3
  have kk3 := kk2.up u3
  have g3_3 : w3.cell? ⟨w.heap.size, 3, none⟩ = some (.slice A3 x3.length c3) := kk3.cell 3
  by_cases q2 : ¬ (((shL shI).sz x3 : Nat) : Int) ≤ left - ((shL shS).sz x1 : Nat) - ((shL shS).sz x2 : Nat)
  · rw [szR_no (by omega)]
    go_wp2_with fail
    go_ret
    exact SzP.no (by rw [HS.out]; omega) uu3
  replace q2 := Decidable.of_not_not q2
  rw [szR_yes q2]
  go_wp2_with fail
  go_ret
  exact SzP.yes (by rw [HS.out]; omega) (by rw [HS.out] <;> omega) uu3

set_option maxHeartbeats 1000000 in
theorem c_szSlot (v : Value) (x : TSlot) (left : Int) (w : World) (h : AV shSlot w v x) (h0 : 0 ≤ left) (h1 : left ≤ 1048576) :
    Calls Tryz.prog 85 #[v, .int .i64 left] w (SzP left (shSlot.sz x) w) := by
  obtain ⟨cs, rfl, h⟩ := h
  obtain ⟨x0, ⟨x1, x2, x3, x4⟩⟩ := x
  have ho := openSlot h
  try dsimp only at ho
  obtain ⟨A2, c2, A3, c3, A4, c4, rfl, b0, b2, b3, b4⟩ := ho
  have HS := Lib.hid (show shSlot.sz (x0, (x1, x2, x3, x4)) = 0 + (shPage.sz (x1, x2, x3, x4)) from rfl)
  have kk0 : Bk (w.alloc (.cells #[.int .i64 x0, .bool x1, .slice A2 x2.length c2, .slice A3 x3.length c3, .slice A4 x4.length c4] 133)) w.heap.size 133 #[.int .i64 x0, .bool x1, .slice A2 x2.length c2, .slice A3 x3.length c3, .slice A4 x4.length c4] := Bk.new _ _ _
  have uu0 : Up w (w.alloc (.cells #[.int .i64 x0, .bool x1, .slice A2 x2.length c2, .slice A3 x3.length c3, .slice A4 x4.length c4] 133)) := (Up.refl _).alloc _
  go_enter Tryz.func85, Tryz.ntmps85
  go_wp2_with fail
  refine (c_szPage _ (x1, x2, x3, x4) _ _ ⟨_, rfl, mkPage (x := (x1, x2, x3, x4)) (b2.up good_S uu0) (b3.up good_S uu0) (b4.up good_I uu0)⟩ (by omega) (by omega)).mono ?_
  rintro e w1 ⟨rfl, u1⟩
  have uu1 := uu0.trans u1
  have kk1 := kk0.up u1
  have g1_1 : w1.cell? ⟨w.heap.size, 1, none⟩ = some (.bool x1) := kk1.cell 1
  have g1_2 : w1.cell? ⟨w.heap.size, 2, none⟩ = some (.slice A2 x2.length c2) := kk1.cell 2
  have g1_3 : w1.cell? ⟨w.heap.size, 3, none⟩ = some (.slice A3 x3.length c3) := kk1.cell 3
  have g1_4 : w1.cell? ⟨w.heap.size, 4, none⟩ = some (.slice A4 x4.length c4) := kk1.cell 4
  by_cases q0 : ¬ ((shPage.sz (x1, x2, x3, x4) : Nat) : Int) ≤ left
  · rw [szR_no (by omega)]
    go_wp2_with fail
    go_ret
    exact SzP.no (by rw [HS.out]; omega) uu1
  replace q0 := Decidable.of_not_not q0
  rw [szR_yes q0]
  go_wp2_with fail
  go_ret
  exact SzP.yes (by rw [HS.out]; omega) (by rw [HS.out] <;> omega) uu1

set_option maxHeartbeats 1000000 in
theorem c_szSlotS (xs : List TSlot) (A : Option Addr) (c : Nat) (left : Int) (w : World) (h : SRW shSlot w A c xs) (h0 : 0 ≤ left) (h1 : left ≤ 1048576) :
    Calls Tryz.prog 46 #[.slice A xs.length c, .int .i64 left] w (SzP left ((shL shSlot).sz xs) w) := by
  have hlen := h.len_le
  have HS := Lib.hid (show (shL shSlot).sz xs = xs.length + (xs.map shSlot.sz).sum from rfl)
  go_enter Tryz.func46, Tryz.ntmps46
  go_wp2
  · go_ret
    exact SzP.no (by rw [HS.out]; omega) (Up.refl _)
  · go_loopw [1, 5] (fun l i wr => ∃ k : Nat, k ≤ xs.length ∧ i = .int .i64 k ∧ l = .int .i64 (left - xs.length - psum shSlot.sz xs k) ∧ (xs.length + psum shSlot.sz xs k : Int) ≤ left ∧ Up w wr) (fun _ i _ => xs.length - (intOf i).toNat)
    case atStart => exact ⟨0, Nat.zero_le _, rfl, by simp [psum_zero], by simp [psum_zero]; omega, Up.refl _⟩
    case round =>
      obtain ⟨k, hk, rfl, rfl, hp, hu⟩ := hrel
      by_cases hlt : k < xs.length
      · obtain ⟨g, off, A2, c2, A3, c3, A4, c4, rfl, _, _, hc0, hc1, hc2, hc3, hc4, b0, b2, b3, b4, _⟩ := atSlot (h.up good_Slot hu) hlt
        have HP := Lib.hid (psum_succ shSlot.sz xs k hlt)
        have hle := psum_le shSlot.sz xs (k + 1)
        rw [HP.out] at hle
        go_wp2_with fail
        refine (c_szSlot _ xs[k] _ _ ⟨_, rfl, mkSlot (x := xs[k]) b0 b2 b3 b4⟩ (by omega) (by omega)).mono ?_
        rintro e w1 ⟨rfl, hu1⟩
        by_cases hq : (shSlot.sz xs[k] : Int) ≤ left - xs.length - psum shSlot.sz xs k
        · rw [szR_yes hq]
          go_wp2_with fail
          go_roundw
          case rel => exact ⟨k + 1, by omega, by go_num, by rw [HP.out]; go_num, by rw [HP.out]; omega, hu.trans hu1⟩
          case measure => simp [intOf]; omega
        · rw [szR_no (by omega)]
          go_wp2_with fail
          go_ret
          exact SzP.no (by rw [HS.out]; omega) (hu.trans hu1)
      · have HK := Lib.hid (show k = xs.length by omega)
        go_wp2_with fail
        go_ret
        exact SzP.yes (by rw [HS.out, ← psum_all, ← HK.out]; omega) (by rw [HS.out, ← psum_all, ← HK.out]; omega) hu

set_option maxHeartbeats 1000000 in
theorem c_szBtree (v : Value) (x : TBtree) (left : Int) (w : World) (h : AV shBtree w v x) (h0 : 0 ≤ left) (h1 : left ≤ 1048576) :
    Calls Tryz.prog 19 #[v, .int .i64 left] w (SzP left (shBtree.sz x) w) := by
  obtain ⟨cs, rfl, h⟩ := h
  obtain ⟨x0, x1⟩ := x
  have ho := openBtree h
  try dsimp only at ho
  obtain ⟨A1, c1, rfl, b0, b1⟩ := ho
  have HS := Lib.hid (show shBtree.sz (x0, x1) = 0 + ((shL shSlot).sz x1) from rfl)
  have kk0 : Bk (w.alloc (.cells #[.int .i64 x0, .slice A1 x1.length c1] 46)) w.heap.size 46 #[.int .i64 x0, .slice A1 x1.length c1] := Bk.new _ _ _
  have uu0 : Up w (w.alloc (.cells #[.int .i64 x0, .slice A1 x1.length c1] 46)) := (Up.refl _).alloc _
  go_enter Tryz.func19, Tryz.ntmps19
  go_wp2_with fail
  refine (c_szSlotS _ _ _ _ _ (b1.up good_Slot uu0) (by omega) (by omega)).mono ?_
  rintro e w1 ⟨rfl, u1⟩
  have uu1 := uu0.trans u1
  have kk1 := kk0.up u1
  have g1_1 : w1.cell? ⟨w.heap.size, 1, none⟩ = some (.slice A1 x1.length c1) := kk1.cell 1
  by_cases q0 : ¬ (((shL shSlot).sz x1 : Nat) : Int) ≤ left
  · rw [szR_no (by omega)]
    go_wp2_with fail
    go_ret
    exact SzP.no (by rw [HS.out]; omega) uu1
  replace q0 := Decidable.of_not_not q0
  rw [szR_yes q0]
  go_wp2_with fail
  go_ret
  exact SzP.yes (by rw [HS.out]; omega) (by rw [HS.out] <;> omega) uu1


set_option maxHeartbeats 1000000 in
theorem c_szNode (v : Value) (x : TNode) (left : Int) (w : World) (h : AV shNode w v x) (h0 : 0 ≤ left) (h1 : left ≤ 1048576) :
    Calls Tryz.prog 68 #[v, .int .i64 left] w (SzP left (shNode.sz x) w) := by
  obtain ⟨cs, rfl, h⟩ := h
  obtain ⟨x0, x1, x2⟩ := x
  have ho := openNode h
  try dsimp only at ho
  obtain ⟨A1, c1, rfl, b0, b1, b2⟩ := ho
  have bm0 := b0; unfold maxLen at bm0
  have bm2 := b2; unfold maxLen at bm2
  have HS := Lib.hid (show shNode.sz (x0, x1, x2) = x0.size + ((shL shS).sz x1 + (x2.size)) from rfl)
  have kk0 : Bk (w.alloc (.cells #[.string x0, .slice A1 x1.length c1, .string x2] 114)) w.heap.size 114 #[.string x0, .slice A1 x1.length c1, .string x2] := Bk.new _ _ _
  have uu0 : Up w (w.alloc (.cells #[.string x0, .slice A1 x1.length c1, .string x2] 114)) := (Up.refl _).alloc _
  go_enter Tryz.func68, Tryz.ntmps68
  go_wp2_with fail
  · go_ret
    exact SzP.no (by rw [HS.out]; omega) uu0
  refine (c_szStringS _ _ _ _ _ (b1.up good_S uu0) (by omega) (by omega)).mono ?_
  rintro e w1 ⟨rfl, u1⟩
  have uu1 := uu0.trans u1
  have kk1 := kk0.up u1
  have g1_1 : w1.cell? ⟨w.heap.size, 1, none⟩ = some (.slice A1 x1.length c1) := kk1.cell 1
  have g1_2 : w1.cell? ⟨w.heap.size, 2, none⟩ = some (.string x2) := kk1.cell 2
  by_cases q1 : ¬ (((shL shS).sz x1 : Nat) : Int) ≤ left - (x0.size : Nat)
  · rw [szR_no (by omega)]
    go_wp2_with fail
    go_ret
    exact SzP.no (by rw [HS.out]; omega) uu1
  replace q1 := Decidable.of_not_not q1
  rw [szR_yes q1]
  go_wp2_with fail
  · go_ret
    exact SzP.no (by rw [HS.out]; omega) uu1
  go_ret
  exact SzP.yes (by rw [HS.out]; omega) (by rw [HS.out] <;> omega) uu1

set_option maxHeartbeats 1000000 in
theorem c_szNodeS (xs : List TNode) (A : Option Addr) (c : Nat) (left : Int) (w : World) (h : SRW shNode w A c xs) (h0 : 0 ≤ left) (h1 : left ≤ 1048576) :
    Calls Tryz.prog 31 #[.slice A xs.length c, .int .i64 left] w (SzP left ((shL shNode).sz xs) w) := by
  have hlen := h.len_le
  have HS := Lib.hid (show (shL shNode).sz xs = xs.length + (xs.map shNode.sz).sum from rfl)
  go_enter Tryz.func31, Tryz.ntmps31
  go_wp2
  · go_ret
    exact SzP.no (by rw [HS.out]; omega) (Up.refl _)
  · go_loopw [1, 5] (fun l i wr => ∃ k : Nat, k ≤ xs.length ∧ i = .int .i64 k ∧ l = .int .i64 (left - xs.length - psum shNode.sz xs k) ∧ (xs.length + psum shNode.sz xs k : Int) ≤ left ∧ Up w wr) (fun _ i _ => xs.length - (intOf i).toNat)
    case atStart => exact ⟨0, Nat.zero_le _, rfl, by simp [psum_zero], by simp [psum_zero]; omega, Up.refl _⟩
    case round =>
      obtain ⟨k, hk, rfl, rfl, hp, hu⟩ := hrel
      by_cases hlt : k < xs.length
      · obtain ⟨g, off, A1, c1, rfl, _, _, hc0, hc1, hc2, b0, b1, b2, _⟩ := atNode (h.up good_Node hu) hlt
        have HP := Lib.hid (psum_succ shNode.sz xs k hlt)
        have hle := psum_le shNode.sz xs (k + 1)
        rw [HP.out] at hle
        go_wp2_with fail
        refine (c_szNode _ xs[k] _ _ ⟨_, rfl, mkNode (x := xs[k]) b0 b1 b2⟩ (by omega) (by omega)).mono ?_
        rintro e w1 ⟨rfl, hu1⟩
        by_cases hq : (shNode.sz xs[k] : Int) ≤ left - xs.length - psum shNode.sz xs k
        · rw [szR_yes hq]
          go_wp2_with fail
          go_roundw
          case rel => exact ⟨k + 1, by omega, by go_num, by rw [HP.out]; go_num, by rw [HP.out]; omega, hu.trans hu1⟩
          case measure => simp [intOf]; omega
        · rw [szR_no (by omega)]
          go_wp2_with fail
          go_ret
          exact SzP.no (by rw [HS.out]; omega) (hu.trans hu1)
      · have HK := Lib.hid (show k = xs.length by omega)
        go_wp2_with fail
        go_ret
        exact SzP.yes (by rw [HS.out, ← psum_all, ← HK.out]; omega) (by rw [HS.out, ← psum_all, ← HK.out]; omega) hu

set_option maxHeartbeats 1000000 in
theorem c_szTree (v : Value) (x : TTree) (left : Int) (w : World) (h : AV shTree w v x) (h0 : 0 ≤ left) (h1 : left ≤ 1048576) :
    Calls Tryz.prog 6 #[v, .int .i64 left] w (SzP left (shTree.sz x) w) := by
  obtain ⟨cs, rfl, h⟩ := h
  obtain ⟨x0, rfl⟩ : ∃ q, q = x := ⟨_, rfl⟩
  have ho := openTree h
  try dsimp only at ho
  obtain ⟨A0, c0, rfl, b0⟩ := ho
  have HS := Lib.hid (show shTree.sz x0 = (shL shNode).sz x0 from rfl)
  have kk0 : Bk (w.alloc (.cells #[.slice A0 x0.length c0] 24)) w.heap.size 24 #[.slice A0 x0.length c0] := Bk.new _ _ _
  have uu0 : Up w (w.alloc (.cells #[.slice A0 x0.length c0] 24)) := (Up.refl _).alloc _
  go_enter Tryz.func6, Tryz.ntmps6
  go_wp2_with fail
  refine (c_szNodeS _ _ _ _ _ (b0.up good_Node uu0) (by omega) (by omega)).mono ?_
  rintro e w1 ⟨rfl, u1⟩
  have uu1 := uu0.trans u1
  have kk1 := kk0.up u1
  have g1_0 : w1.cell? ⟨w.heap.size, 0, none⟩ = some (.slice A0 x0.length c0) := kk1.cell 0
  by_cases q0 : ¬ (((shL shNode).sz x0 : Nat) : Int) ≤ left
  · rw [szR_no (by omega)]
    go_wp2_with fail
    go_ret
    exact SzP.no (by rw [HS.out]; omega) uu1
  replace q0 := Decidable.of_not_not q0
  rw [szR_yes q0]
  go_wp2_with fail
  go_ret
  exact SzP.yes (by rw [HS.out]; omega) (by rw [HS.out] <;> omega) uu1

set_option maxHeartbeats 1000000 in
theorem c_szChange (v : Value) (x : TChange) (left : Int) (w : World) (h : AV shChange w v x) (h0 : 0 ≤ left) (h1 : left ≤ 1048576) :
    Calls Tryz.prog 32 #[v, .int .i64 left] w (SzP left (shChange.sz x) w) := by
  obtain ⟨cs, rfl, h⟩ := h
  obtain ⟨x0, x1, x2, x3⟩ := x
  have ho := openChange h
  try dsimp only at ho
  obtain ⟨A2, c2, rfl, b0, b1, b2, b3⟩ := ho
  have bm1 := b1; unfold maxLen at bm1
  have bm3 := b3; unfold maxLen at bm3
  have HS := Lib.hid (show shChange.sz (x0, x1, x2, x3) = 0 + (x1.size + ((shL shS).sz x2 + (x3.size))) from rfl)
  have kk0 : Bk (w.alloc (.cells #[.int .i64 x0, .string x1, .slice A2 x2.length c2, .string x3] 67)) w.heap.size 67 #[.int .i64 x0, .string x1, .slice A2 x2.length c2, .string x3] := Bk.new _ _ _
  have uu0 : Up w (w.alloc (.cells #[.int .i64 x0, .string x1, .slice A2 x2.length c2, .string x3] 67)) := (Up.refl _).alloc _
  go_enter Tryz.func32, Tryz.ntmps32
  go_wp2_with fail
  · go_ret
    exact SzP.no (by rw [HS.out]; omega) uu0
  refine (c_szStringS _ _ _ _ _ (b2.up good_S uu0) (by omega) (by omega)).mono ?_
  rintro e w1 ⟨rfl, u1⟩
  have uu1 := uu0.trans u1
  have kk1 := kk0.up u1
  have g1_2 : w1.cell? ⟨w.heap.size, 2, none⟩ = some (.slice A2 x2.length c2) := kk1.cell 2
  have g1_3 : w1.cell? ⟨w.heap.size, 3, none⟩ = some (.string x3) := kk1.cell 3
  by_cases q1 : ¬ (((shL shS).sz x2 : Nat) : Int) ≤ left - (x1.size : Nat)
  · rw [szR_no (by omega)]
    go_wp2_with fail
    go_ret
    exact SzP.no (by rw [HS.out]; omega) uu1
  replace q1 := Decidable.of_not_not q1
  rw [szR_yes q1]
  go_wp2_with fail
  · go_ret
    exact SzP.no (by rw [HS.out]; omega) uu1
  go_ret
  exact SzP.yes (by rw [HS.out]; omega) (by rw [HS.out] <;> omega) uu1

set_option maxHeartbeats 1000000 in
theorem c_szChangeS (xs : List TChange) (A : Option Addr) (c : Nat) (left : Int) (w : World) (h : SRW shChange w A c xs) (h0 : 0 ≤ left) (h1 : left ≤ 1048576) :
    Calls Tryz.prog 7 #[.slice A xs.length c, .int .i64 left] w (SzP left ((shL shChange).sz xs) w) := by
  have hlen := h.len_le
  have HS := Lib.hid (show (shL shChange).sz xs = xs.length + (xs.map shChange.sz).sum from rfl)
  go_enter Tryz.func7, Tryz.ntmps7
  go_wp2
  · go_ret
    exact SzP.no (by rw [HS.out]; omega) (Up.refl _)
  · go_loopw [1, 5] (fun l i wr => ∃ k : Nat, k ≤ xs.length ∧ i = .int .i64 k ∧ l = .int .i64 (left - xs.length - psum shChange.sz xs k) ∧ (xs.length + psum shChange.sz xs k : Int) ≤ left ∧ Up w wr) (fun _ i _ => xs.length - (intOf i).toNat)
    case atStart => exact ⟨0, Nat.zero_le _, rfl, by simp [psum_zero], by simp [psum_zero]; omega, Up.refl _⟩
    case round =>
      obtain ⟨k, hk, rfl, rfl, hp, hu⟩ := hrel
      by_cases hlt : k < xs.length
      · obtain ⟨g, off, A2, c2, rfl, _, _, hc0, hc1, hc2, hc3, b0, b1, b2, b3, _⟩ := atChange (h.up good_Change hu) hlt
        have HP := Lib.hid (psum_succ shChange.sz xs k hlt)
        have hle := psum_le shChange.sz xs (k + 1)
        rw [HP.out] at hle
        go_wp2_with fail
        refine (c_szChange _ xs[k] _ _ ⟨_, rfl, mkChange (x := xs[k]) b0 b1 b2 b3⟩ (by omega) (by omega)).mono ?_
        rintro e w1 ⟨rfl, hu1⟩
        by_cases hq : (shChange.sz xs[k] : Int) ≤ left - xs.length - psum shChange.sz xs k
        · rw [szR_yes hq]
          go_wp2_with fail
          go_roundw
          case rel => exact ⟨k + 1, by omega, by go_num, by rw [HP.out]; go_num, by rw [HP.out]; omega, hu.trans hu1⟩
          case measure => simp [intOf]; omega
        · rw [szR_no (by omega)]
          go_wp2_with fail
          go_ret
          exact SzP.no (by rw [HS.out]; omega) (hu.trans hu1)
      · have HK := Lib.hid (show k = xs.length by omega)
        go_wp2_with fail
        go_ret
        exact SzP.yes (by rw [HS.out, ← psum_all, ← HK.out]; omega) (by rw [HS.out, ← psum_all, ← HK.out]; omega) hu








end Go.Proofs.YtehhgogmbpdpbaaGreatDoor

namespace Go.Proofs.YtehhgogmbpdpbaaGreatDoor
open Go.RowKit
set_option linter.unusedSimpArgs false
set_option linter.unusedVariables false

theorem info_String : (Tryz.prog.info? 9).map (fun i => (i.zero, i.size, i.bytes)) = some (some (.string ⟨#[]⟩), 1, 16) := by kernel_rfl
set_option maxHeartbeats 1000000 in
theorem c_toStringS (xs : List ByteArray) (A : Option Addr) (c : Nat) (w : World) (h : SRW shS w A c xs) (hn : (shL shS).sz xs ≤ 1048576) :
    Calls Tryz.prog 76 #[.slice A xs.length c] w (ToL shS xs w) := by
  have hl : xs.length ≤ 1048576 := Nat.le_trans (Nat.le_add_right _ _) hn
  obtain ⟨i0, hi0, hz0, hz1, hz2⟩ := info_parts info_String
  have hmk := fun W => run_make_rows (P := Tryz.prog) 65 9 i0 _ Tryz.underlying65 hi0 hz0 xs.length (by rw [hz2]; omega) (by omega) W
  rw [hz1] at hmk
  clear hi0 hz0 hz1 hz2
  obtain ⟨C0, hC0⟩ : ∃ C0, C0 = madeCells (Value.cells (.string ⟨#[]⟩)) (xs.length * 1) := ⟨_, rfl⟩
  rw [← hC0] at hmk
  have HB : Bld shS w.heap.size (w.alloc (.cells C0 9)) w.heap.size 9 C0 xs.length xs 0 :=
    Bld.start (Nat.le_refl _) (Bk.new _ _ _) (by rw [hC0, size_madeCells]; rfl)
  clear hC0
  go_enter Tryz.func76, Tryz.ntmps76
  go_wp2
  go_loopw [4] (fun i wr => ∃ (k : Nat) (C : Array Value), k ≤ xs.length ∧ i = .int .i64 k ∧ Bld shS w.heap.size wr w.heap.size 9 C xs.length xs k ∧ Up w wr) (fun i _ => xs.length - (intOf i).toNat)
  case atStart => exact ⟨0, C0, Nat.zero_le _, rfl, HB, (Up.refl _).alloc _⟩
  case round =>
    obtain ⟨k, C, hk, rfl, hB, hu⟩ := hrel
    by_cases hlt : k < xs.length
    · obtain ⟨g, off, rfl, _, _, hc, hb⟩ := (h.up good_S hu).at_S hlt
      have hbk := hB.1
      have hC : C.size = xs.length * 1 := hB.2.1
      obtain ⟨o0, hc2⟩ : ∃ o, wr.cell? ⟨w.heap.size, k, none⟩ = some o := by rw [hbk.cell]; exact ⟨_, Array.getElem?_eq_getElem (by omega)⟩
      have hf2 := hbk.frozen k
      go_wp2
      go_roundw
      case rel => exact ⟨k + 1, _, by omega, by go_num, hB.push good_S (Up.refl _) (cs := [.string xs[k]]) (x := xs[k]) (b := []) ⟨⟨rfl, by unfold maxLen; omega⟩, rfl⟩ (by simp) (List.getElem?_eq_getElem hlt) hlt (But.set _ _ _ _) (by simpa [putCells, shS] using hbk.set k (.string xs[k])), hu.setCell (Nat.le_refl _) _⟩
      case measure => simp [intOf]; omega
    · obtain ⟨bl, hso, hnd⟩ := hB.done (c := xs.length) (by omega) (Nat.le_refl _) (by unfold maxLen; omega) (Nat.le_refl _)
      go_wp2
      go_ret
      exact ⟨_, _, bl, rfl, hso, hnd, hu⟩

theorem info_Int64 : (Tryz.prog.info? 2).map (fun i => (i.zero, i.size, i.bytes)) = some (some (.int .i64 0), 1, 8) := by kernel_rfl
set_option maxHeartbeats 1000000 in
theorem c_toInt64S (xs : List Int) (A : Option Addr) (c : Nat) (w : World) (h : SRW shI w A c xs) (hn : (shL shI).sz xs ≤ 1048576) :
    Calls Tryz.prog 181 #[.slice A xs.length c] w (ToL shI xs w) := by
  have hl : xs.length ≤ 1048576 := Nat.le_trans (Nat.le_add_right _ _) hn
  obtain ⟨i0, hi0, hz0, hz1, hz2⟩ := info_parts info_Int64
  have hmk := fun W => run_make_rows (P := Tryz.prog) 83 2 i0 _ Tryz.underlying83 hi0 hz0 xs.length (by rw [hz2]; omega) (by omega) W
  rw [hz1] at hmk
  clear hi0 hz0 hz1 hz2
  obtain ⟨C0, hC0⟩ : ∃ C0, C0 = madeCells (Value.cells (.int .i64 0)) (xs.length * 1) := ⟨_, rfl⟩
  rw [← hC0] at hmk
  have HB : Bld shI w.heap.size (w.alloc (.cells C0 2)) w.heap.size 2 C0 xs.length xs 0 :=
    Bld.start (Nat.le_refl _) (Bk.new _ _ _) (by rw [hC0, size_madeCells]; rfl)
  clear hC0
  go_enter Tryz.func181, Tryz.ntmps181
  go_wp2
  go_loopw [4] (fun i wr => ∃ (k : Nat) (C : Array Value), k ≤ xs.length ∧ i = .int .i64 k ∧ Bld shI w.heap.size wr w.heap.size 2 C xs.length xs k ∧ Up w wr) (fun i _ => xs.length - (intOf i).toNat)
  case atStart => exact ⟨0, C0, Nat.zero_le _, rfl, HB, (Up.refl _).alloc _⟩
  case round =>
    obtain ⟨k, C, hk, rfl, hB, hu⟩ := hrel
    by_cases hlt : k < xs.length
    · obtain ⟨g, off, rfl, _, _, hc, hb⟩ := (h.up good_I hu).at_I hlt
      have hbk := hB.1
      have hC : C.size = xs.length * 1 := hB.2.1
      obtain ⟨o0, hc2⟩ : ∃ o, wr.cell? ⟨w.heap.size, k, none⟩ = some o := by rw [hbk.cell]; exact ⟨_, Array.getElem?_eq_getElem (by omega)⟩
      have hf2 := hbk.frozen k
      go_wp2
      go_roundw
      case rel => exact ⟨k + 1, _, by omega, by go_num, hB.push good_I (Up.refl _) (cs := [.int .i64 xs[k]]) (x := xs[k]) (b := []) ⟨⟨rfl, hb⟩, rfl⟩ (by simp) (List.getElem?_eq_getElem hlt) hlt (But.set _ _ _ _) (by simpa [putCells, shI] using hbk.set k (.int .i64 xs[k])), hu.setCell (Nat.le_refl _) _⟩
      case measure => simp [intOf]; omega
    · obtain ⟨bl, hso, hnd⟩ := hB.done (c := xs.length) (by omega) (Nat.le_refl _) (by unfold maxLen; omega) (Nat.le_refl _)
      go_wp2
      go_ret
      exact ⟨_, _, bl, rfl, hso, hnd, hu⟩





theorem asmPage {w : World} {lo hi : Nat} {x0 : Bool} {x1 : List ByteArray} {D1 : Option Addr} {d1 : Nat} {x2 : List ByteArray} {D2 : Option Addr} {d2 : Nat} {x3 : List Int} {D3 : Option Addr} {d3 : Nat} {bl1 : List Nat} {bl2 : List Nat} {bl3 : List Nat} (h1 : SO shS w lo hi D1 d1 x1 bl1) (h2 : SO shS w lo hi D2 d2 x2 bl2) (h3 : SO shI w lo hi D3 d3 x3 bl3) : shPage.own w lo hi [.bool x0, .slice D1 x1.length d1, .slice D2 x2.length d2, .slice D3 x3.length d3] (x0, x1, x2, x3) (bl1 ++ bl2 ++ bl3) := by
  have h : shPage.own w lo hi [.bool x0, .slice D1 x1.length d1, .slice D2 x2.length d2, .slice D3 x3.length d3] (x0, x1, x2, x3) _ := (mkO_P (a := shB) (x := (x0, x1, x2, x3)) good_B ⟨rfl, rfl⟩ (mkO_P (a := (shL shS)) (x := (x1, x2, x3)) (good_L good_S) ⟨D1, d1, rfl, h1⟩ (mkO_P (a := (shL shS)) (x := (x2, x3)) (good_L good_S) ⟨D2, d2, rfl, h2⟩ ⟨D3, d3, rfl, h3⟩)))
  simpa using h
set_option maxRecDepth 100000 in
set_option maxHeartbeats 4000000 in
theorem c_toPage (v : Value) (x : TPage) (w : World) (h : AV shPage w v x) (hn : shPage.sz x ≤ 1048576) :
    Calls Tryz.prog 133 #[v] w (ToV shPage x w) := by
  obtain ⟨cs, rfl, h⟩ := h
  obtain ⟨x0, x1, x2, x3⟩ := x
  have ho := openPage h
  try dsimp only at ho
  obtain ⟨A1, c1, A2, c2, A3, c3, rfl, b1, b2, b3⟩ := ho
  have hs : shPage.sz (x0, x1, x2, x3) = 0 + ((shL shS).sz x1 + ((shL shS).sz x2 + ((shL shI).sz x3))) := rfl
  have hl1 : (shL shS).sz x1 ≤ 1048576 := by omega
  have hl2 : (shL shS).sz x2 ≤ 1048576 := by omega
  have hl3 : (shL shI).sz x3 ≤ 1048576 := by omega
  clear hs hn
  go_enter Tryz.func133, Tryz.ntmps133
  go_wp2_with fail
  have vv0 : Up w (((w.alloc (.cells #[.bool x0, .slice A1 x1.length c1, .slice A2 x2.length c2, .slice A3 x3.length c3] 131)).alloc (.cells #[.bool false, .slice none 0 0, .slice none 0 0, .slice none 0 0] 85)).alloc (.cells #[.bool x0, .slice none 0 0, .slice none 0 0, .slice none 0 0] 85)) := (((Up.refl _).alloc _).alloc _).alloc _
  have ja0 : Bk (((w.alloc (.cells #[.bool x0, .slice A1 x1.length c1, .slice A2 x2.length c2, .slice A3 x3.length c3] 131)).alloc (.cells #[.bool false, .slice none 0 0, .slice none 0 0, .slice none 0 0] 85)).alloc (.cells #[.bool x0, .slice none 0 0, .slice none 0 0, .slice none 0 0] 85)) w.heap.size 131 #[.bool x0, .slice A1 x1.length c1, .slice A2 x2.length c2, .slice A3 x3.length c3] := ((Bk.new _ _ _).alloc _).alloc _
  have jr0 : Bk (((w.alloc (.cells #[.bool x0, .slice A1 x1.length c1, .slice A2 x2.length c2, .slice A3 x3.length c3] 131)).alloc (.cells #[.bool false, .slice none 0 0, .slice none 0 0, .slice none 0 0] 85)).alloc (.cells #[.bool x0, .slice none 0 0, .slice none 0 0, .slice none 0 0] 85)) (w.heap.size + 1) 85 #[.bool false, .slice none 0 0, .slice none 0 0, .slice none 0 0] := by simpa using (Bk.new (w.alloc (.cells #[.bool x0, .slice A1 x1.length c1, .slice A2 x2.length c2, .slice A3 x3.length c3] 131)) 85 #[.bool false, .slice none 0 0, .slice none 0 0, .slice none 0 0]).alloc (.cells #[.bool x0, .slice none 0 0, .slice none 0 0, .slice none 0 0] 85)
  have jo0 : Bk (((w.alloc (.cells #[.bool x0, .slice A1 x1.length c1, .slice A2 x2.length c2, .slice A3 x3.length c3] 131)).alloc (.cells #[.bool false, .slice none 0 0, .slice none 0 0, .slice none 0 0] 85)).alloc (.cells #[.bool x0, .slice none 0 0, .slice none 0 0, .slice none 0 0] 85)) (w.heap.size + 1 + 1) 85 #[.bool x0, .slice none 0 0, .slice none 0 0, .slice none 0 0] := by simpa using Bk.new ((w.alloc (.cells #[.bool x0, .slice A1 x1.length c1, .slice A2 x2.length c2, .slice A3 x3.length c3] 131)).alloc (.cells #[.bool false, .slice none 0 0, .slice none 0 0, .slice none 0 0] 85)) 85 #[.bool x0, .slice none 0 0, .slice none 0 0, .slice none 0 0]
  have sz0 : w.heap.size + 1 + 1 + 1 = (((w.alloc (.cells #[.bool x0, .slice A1 x1.length c1, .slice A2 x2.length c2, .slice A3 x3.length c3] 131)).alloc (.cells #[.bool false, .slice none 0 0, .slice none 0 0, .slice none 0 0] 85)).alloc (.cells #[.bool x0, .slice none 0 0, .slice none 0 0, .slice none 0 0] 85)).heap.size := by simp
  refine (c_toStringS _ _ _ _ (b1.up good_S vv0) hl1).mono ?_
  rintro e w1 ⟨D1, d1, bl1, rfl, o1, nd1, u1⟩
  have uu1 := vv0.trans u1
  have ka1 := ja0.up u1
  have kr1 := jr0.up u1
  have ko1 := jo0.up u1
  have zz1 := u1.size
  rw [← sz0] at zz1
  have s1_1 : SO shS w1 (w.heap.size + 1 + 1 + 1) w1.heap.size D1 d1 x1 bl1 := by rw [sz0]; exact o1
  have nn1 : (bl1).Nodup := nd1
  have mm1 : ∀ b ∈ bl1, b < w1.heap.size := fun b hb => (s1_1.in_ good_S b hb).2
  clear ja0 jr0 jo0 u1 o1
  have ga1_0 : w1.cell? ⟨w.heap.size, 0, none⟩ = some (.bool x0) := ka1.cell 0
  have gr1_0 : w1.cell? ⟨w.heap.size + 1, 0, none⟩ = some (.bool false) := kr1.cell 0
  have go1_0 : w1.cell? ⟨w.heap.size + 1 + 1, 0, none⟩ = some (.bool x0) := ko1.cell 0
  have fr1_0 := kr1.frozen 0
  have fo1_0 := ko1.frozen 0
  have ga1_1 : w1.cell? ⟨w.heap.size, 1, none⟩ = some (.slice A1 x1.length c1) := ka1.cell 1
  have gr1_1 : w1.cell? ⟨w.heap.size + 1, 1, none⟩ = some (.slice none 0 0) := kr1.cell 1
  have go1_1 : w1.cell? ⟨w.heap.size + 1 + 1, 1, none⟩ = some (.slice none 0 0) := ko1.cell 1
  have fr1_1 := kr1.frozen 1
  have fo1_1 := ko1.frozen 1
  have ga1_2 : w1.cell? ⟨w.heap.size, 2, none⟩ = some (.slice A2 x2.length c2) := ka1.cell 2
  have gr1_2 : w1.cell? ⟨w.heap.size + 1, 2, none⟩ = some (.slice none 0 0) := kr1.cell 2
  have go1_2 : w1.cell? ⟨w.heap.size + 1 + 1, 2, none⟩ = some (.slice none 0 0) := ko1.cell 2
  have fr1_2 := kr1.frozen 2
  have fo1_2 := ko1.frozen 2
  have ga1_3 : w1.cell? ⟨w.heap.size, 3, none⟩ = some (.slice A3 x3.length c3) := ka1.cell 3
  have gr1_3 : w1.cell? ⟨w.heap.size + 1, 3, none⟩ = some (.slice none 0 0) := kr1.cell 3
  have go1_3 : w1.cell? ⟨w.heap.size + 1 + 1, 3, none⟩ = some (.slice none 0 0) := ko1.cell 3
  have fr1_3 := kr1.frozen 3
  have fo1_3 := ko1.frozen 3
  go_wp2_with fail
  have vv1 : Up w (setCells w1 (w.heap.size + 1 + 1) 1 [.slice D1 x1.length d1]) := (uu1.sets (g := (w.heap.size + 1 + 1)) (by omega) 1 [.slice D1 x1.length d1])
  have ja1 : Bk (setCells w1 (w.heap.size + 1 + 1) 1 [.slice D1 x1.length d1]) w.heap.size 131 #[.bool x0, .slice A1 x1.length c1, .slice A2 x2.length c2, .slice A3 x3.length c3] := (ka1.far (p := ⟨(w.heap.size + 1 + 1), 1, none⟩) (by dsimp only; omega) (.slice D1 x1.length d1))
  have jr1 : Bk (setCells w1 (w.heap.size + 1 + 1) 1 [.slice D1 x1.length d1]) (w.heap.size + 1) 85 #[.bool false, .slice none 0 0, .slice none 0 0, .slice none 0 0] := (kr1.far (p := ⟨(w.heap.size + 1 + 1), 1, none⟩) (by dsimp only; omega) (.slice D1 x1.length d1))
  have jo1 : Bk (setCells w1 (w.heap.size + 1 + 1) 1 [.slice D1 x1.length d1]) (w.heap.size + 1 + 1) 85 #[.bool x0, .slice D1 x1.length d1, .slice none 0 0, .slice none 0 0] := (ko1.set 1 (.slice D1 x1.length d1))
  have sz1 : w1.heap.size = (setCells w1 (w.heap.size + 1 + 1) 1 [.slice D1 x1.length d1]).heap.size := by simp only [setCells_size]
  have p1_1 := (s1_1.set good_S (w.heap.size + 1 + 1) 1 [.slice D1 x1.length d1] (by omega))
  refine (c_toStringS _ _ _ _ (b2.up good_S vv1) hl2).mono ?_
  rintro e w2 ⟨D2, d2, bl2, rfl, o2, nd2, u2⟩
  have uu2 := vv1.trans u2
  have ka2 := ja1.up u2
  have kr2 := jr1.up u2
  have ko2 := jo1.up u2
  have s2_1 := p1_1.up good_S u2
  have zz2 := u2.size
  rw [← sz1] at zz2
  have s2_2 : SO shS w2 w1.heap.size w2.heap.size D2 d2 x2 bl2 := by rw [sz1]; exact o2
  have nn2 : ((bl1) ++ bl2).Nodup := nodup_two (m := w1.heap.size) nn1 nd2 mm1 (fun b hb => (s2_2.in_ good_S b hb).1)
  have mm2 : ∀ b ∈ (bl1) ++ bl2, b < w2.heap.size := mem_lt_two (fun b hb => Nat.lt_of_lt_of_le (mm1 b hb) zz2) (fun b hb => (s2_2.in_ good_S b hb).2)
  clear ja1 jr1 jo1 u2 o2 p1_1 ka1 kr1 ko1 s1_1 ga1_0 gr1_0 go1_0 fr1_0 fo1_0 ga1_1 gr1_1 go1_1 fr1_1 fo1_1 ga1_2 gr1_2 go1_2 fr1_2 fo1_2 ga1_3 gr1_3 go1_3 fr1_3 fo1_3
  have ga2_0 : w2.cell? ⟨w.heap.size, 0, none⟩ = some (.bool x0) := ka2.cell 0
  have gr2_0 : w2.cell? ⟨w.heap.size + 1, 0, none⟩ = some (.bool false) := kr2.cell 0
  have go2_0 : w2.cell? ⟨w.heap.size + 1 + 1, 0, none⟩ = some (.bool x0) := ko2.cell 0
  have fr2_0 := kr2.frozen 0
  have fo2_0 := ko2.frozen 0
  have ga2_1 : w2.cell? ⟨w.heap.size, 1, none⟩ = some (.slice A1 x1.length c1) := ka2.cell 1
  have gr2_1 : w2.cell? ⟨w.heap.size + 1, 1, none⟩ = some (.slice none 0 0) := kr2.cell 1
  have go2_1 : w2.cell? ⟨w.heap.size + 1 + 1, 1, none⟩ = some (.slice D1 x1.length d1) := ko2.cell 1
  have fr2_1 := kr2.frozen 1
  have fo2_1 := ko2.frozen 1
  have ga2_2 : w2.cell? ⟨w.heap.size, 2, none⟩ = some (.slice A2 x2.length c2) := ka2.cell 2
  have gr2_2 : w2.cell? ⟨w.heap.size + 1, 2, none⟩ = some (.slice none 0 0) := kr2.cell 2
  have go2_2 : w2.cell? ⟨w.heap.size + 1 + 1, 2, none⟩ = some (.slice none 0 0) := ko2.cell 2
  have fr2_2 := kr2.frozen 2
  have fo2_2 := ko2.frozen 2
  have ga2_3 : w2.cell? ⟨w.heap.size, 3, none⟩ = some (.slice A3 x3.length c3) := ka2.cell 3
  have gr2_3 : w2.cell? ⟨w.heap.size + 1, 3, none⟩ = some (.slice none 0 0) := kr2.cell 3
  have go2_3 : w2.cell? ⟨w.heap.size + 1 + 1, 3, none⟩ = some (.slice none 0 0) := ko2.cell 3
  have fr2_3 := kr2.frozen 3
  have fo2_3 := ko2.frozen 3
  go_wp2_with fail
  have vv2 : Up w (setCells w2 (w.heap.size + 1 + 1) 2 [.slice D2 x2.length d2]) := (uu2.sets (g := (w.heap.size + 1 + 1)) (by omega) 2 [.slice D2 x2.length d2])
  have ja2 : Bk (setCells w2 (w.heap.size + 1 + 1) 2 [.slice D2 x2.length d2]) w.heap.size 131 #[.bool x0, .slice A1 x1.length c1, .slice A2 x2.length c2, .slice A3 x3.length c3] := (ka2.far (p := ⟨(w.heap.size + 1 + 1), 2, none⟩) (by dsimp only; omega) (.slice D2 x2.length d2))
  have jr2 : Bk (setCells w2 (w.heap.size + 1 + 1) 2 [.slice D2 x2.length d2]) (w.heap.size + 1) 85 #[.bool false, .slice none 0 0, .slice none 0 0, .slice none 0 0] := (kr2.far (p := ⟨(w.heap.size + 1 + 1), 2, none⟩) (by dsimp only; omega) (.slice D2 x2.length d2))
  have jo2 : Bk (setCells w2 (w.heap.size + 1 + 1) 2 [.slice D2 x2.length d2]) (w.heap.size + 1 + 1) 85 #[.bool x0, .slice D1 x1.length d1, .slice D2 x2.length d2, .slice none 0 0] := (ko2.set 2 (.slice D2 x2.length d2))
  have sz2 : w2.heap.size = (setCells w2 (w.heap.size + 1 + 1) 2 [.slice D2 x2.length d2]).heap.size := by simp only [setCells_size]
  have p2_1 := (s2_1.set good_S (w.heap.size + 1 + 1) 2 [.slice D2 x2.length d2] (by omega))
  have p2_2 := (s2_2.set good_S (w.heap.size + 1 + 1) 2 [.slice D2 x2.length d2] (by omega))
  refine (c_toInt64S _ _ _ _ (b3.up good_I vv2) hl3).mono ?_
  rintro e w3 ⟨D3, d3, bl3, rfl, o3, nd3, u3⟩
  have uu3 := vv2.trans u3
  have ka3 := ja2.up u3
  have kr3 := jr2.up u3
  have ko3 := jo2.up u3
  have s3_1 := p2_1.up good_S u3
  have s3_2 := p2_2.up good_S u3
  have zz3 := u3.size
  rw [← sz2] at zz3
  have s3_3 : SO shI w3 w2.heap.size w3.heap.size D3 d3 x3 bl3 := by rw [sz2]; exact o3
  have nn3 : (((bl1) ++ bl2) ++ bl3).Nodup := nodup_two (m := w2.heap.size) nn2 nd3 mm2 (fun b hb => (s3_3.in_ good_I b hb).1)
  have mm3 : ∀ b ∈ ((bl1) ++ bl2) ++ bl3, b < w3.heap.size := mem_lt_two (fun b hb => Nat.lt_of_lt_of_le (mm2 b hb) zz3) (fun b hb => (s3_3.in_ good_I b hb).2)
  clear ja2 jr2 jo2 u3 o3 p2_1 p2_2 ka2 kr2 ko2 s2_1 s2_2 ga2_0 gr2_0 go2_0 fr2_0 fo2_0 ga2_1 gr2_1 go2_1 fr2_1 fo2_1 ga2_2 gr2_2 go2_2 fr2_2 fo2_2 ga2_3 gr2_3 go2_3 fr2_3 fo2_3
  have ga3_0 : w3.cell? ⟨w.heap.size, 0, none⟩ = some (.bool x0) := ka3.cell 0
  have gr3_0 : w3.cell? ⟨w.heap.size + 1, 0, none⟩ = some (.bool false) := kr3.cell 0
  have go3_0 : w3.cell? ⟨w.heap.size + 1 + 1, 0, none⟩ = some (.bool x0) := ko3.cell 0
  have fr3_0 := kr3.frozen 0
  have fo3_0 := ko3.frozen 0
  have ga3_1 : w3.cell? ⟨w.heap.size, 1, none⟩ = some (.slice A1 x1.length c1) := ka3.cell 1
  have gr3_1 : w3.cell? ⟨w.heap.size + 1, 1, none⟩ = some (.slice none 0 0) := kr3.cell 1
  have go3_1 : w3.cell? ⟨w.heap.size + 1 + 1, 1, none⟩ = some (.slice D1 x1.length d1) := ko3.cell 1
  have fr3_1 := kr3.frozen 1
  have fo3_1 := ko3.frozen 1
  have ga3_2 : w3.cell? ⟨w.heap.size, 2, none⟩ = some (.slice A2 x2.length c2) := ka3.cell 2
  have gr3_2 : w3.cell? ⟨w.heap.size + 1, 2, none⟩ = some (.slice none 0 0) := kr3.cell 2
  have go3_2 : w3.cell? ⟨w.heap.size + 1 + 1, 2, none⟩ = some (.slice D2 x2.length d2) := ko3.cell 2
  have fr3_2 := kr3.frozen 2
  have fo3_2 := ko3.frozen 2
  have ga3_3 : w3.cell? ⟨w.heap.size, 3, none⟩ = some (.slice A3 x3.length c3) := ka3.cell 3
  have gr3_3 : w3.cell? ⟨w.heap.size + 1, 3, none⟩ = some (.slice none 0 0) := kr3.cell 3
  have go3_3 : w3.cell? ⟨w.heap.size + 1 + 1, 3, none⟩ = some (.slice none 0 0) := ko3.cell 3
  have fr3_3 := kr3.frozen 3
  have fo3_3 := ko3.frozen 3
  go_wp2_with fail
  have z_1 := ((s3_1.set good_S (w.heap.size + 1 + 1) 3 [.slice D3 x3.length d3] (by omega)).set good_S (w.heap.size + 1) 0 [.bool x0, .slice D1 x1.length d1, .slice D2 x2.length d2, .slice D3 x3.length d3] (by omega)).wide good_S (lo' := w.heap.size) (by omega) (Nat.le_refl _)
  have z_2 := ((s3_2.set good_S (w.heap.size + 1 + 1) 3 [.slice D3 x3.length d3] (by omega)).set good_S (w.heap.size + 1) 0 [.bool x0, .slice D1 x1.length d1, .slice D2 x2.length d2, .slice D3 x3.length d3] (by omega)).wide good_S (lo' := w.heap.size) (by omega) (Nat.le_refl _)
  have z_3 := ((s3_3.set good_I (w.heap.size + 1 + 1) 3 [.slice D3 x3.length d3] (by omega)).set good_I (w.heap.size + 1) 0 [.bool x0, .slice D1 x1.length d1, .slice D2 x2.length d2, .slice D3 x3.length d3] (by omega)).wide good_I (lo' := w.heap.size) (by omega) (Nat.le_refl _)
  have fu := ((uu3.sets (g := (w.heap.size + 1 + 1)) (by omega) 3 [.slice D3 x3.length d3]).sets (g := (w.heap.size + 1)) (by omega) 0 [.bool x0, .slice D1 x1.length d1, .slice D2 x2.length d2, .slice D3 x3.length d3])
  refine bodyPost_ret (v := .agg #[.bool x0, .slice D1 x1.length d1, .slice D2 x2.length d2, .slice D3 x3.length d3]) (by simp [results, Tryz.results133, go_sem, gr3_0, gr3_1, gr3_2, gr3_3]) rfl ?_
  exact ⟨[.bool x0, .slice D1 x1.length d1, .slice D2 x2.length d2, .slice D3 x3.length d3], _, rfl, asmPage z_1 z_2 z_3, by simpa using nn3, fu⟩

theorem asmSlot {w : World} {lo hi : Nat} {x0 : Int} {x1 : Bool} {x2 : List ByteArray} {D2 : Option Addr} {d2 : Nat} {x3 : List ByteArray} {D3 : Option Addr} {d3 : Nat} {x4 : List Int} {D4 : Option Addr} {d4 : Nat} {bl1 : List Nat} (h0 : I64 x0) (h1 : shPage.own w lo hi [.bool x1, .slice D2 x2.length d2, .slice D3 x3.length d3, .slice D4 x4.length d4] (x1, x2, x3, x4) bl1) : shSlot.own w lo hi [.int .i64 x0, .bool x1, .slice D2 x2.length d2, .slice D3 x3.length d3, .slice D4 x4.length d4] (x0, (x1, x2, x3, x4)) (bl1) := by
  have h : shSlot.own w lo hi [.int .i64 x0, .bool x1, .slice D2 x2.length d2, .slice D3 x3.length d3, .slice D4 x4.length d4] (x0, (x1, x2, x3, x4)) _ := (mkO_P (a := shI) (x := (x0, (x1, x2, x3, x4))) good_I ⟨⟨rfl, h0⟩, rfl⟩ h1)
  simpa using h
set_option maxRecDepth 100000 in
set_option maxHeartbeats 4000000 in
theorem c_toSlot (v : Value) (x : TSlot) (w : World) (h : AV shSlot w v x) (hn : shSlot.sz x ≤ 1048576) :
    Calls Tryz.prog 88 #[v] w (ToV shSlot x w) := by
  obtain ⟨cs, rfl, h⟩ := h
  obtain ⟨x0, ⟨x1, x2, x3, x4⟩⟩ := x
  have ho := openSlot h
  try dsimp only at ho
  obtain ⟨A2, c2, A3, c3, A4, c4, rfl, b0, b2, b3, b4⟩ := ho
  have hs : shSlot.sz (x0, (x1, x2, x3, x4)) = 0 + (shPage.sz (x1, x2, x3, x4)) := rfl
  have hl1 : shPage.sz (x1, x2, x3, x4) ≤ 1048576 := by omega
  clear hs hn
  go_enter Tryz.func88, Tryz.ntmps88
  go_wp2_with fail
  have vv0 : Up w (((w.alloc (.cells #[.int .i64 x0, .bool x1, .slice A2 x2.length c2, .slice A3 x3.length c3, .slice A4 x4.length c4] 133)).alloc (.cells #[.int .i64 0, .bool false, .slice none 0 0, .slice none 0 0, .slice none 0 0] 87)).alloc (.cells #[.int .i64 x0, .bool false, .slice none 0 0, .slice none 0 0, .slice none 0 0] 87)) := (((Up.refl _).alloc _).alloc _).alloc _
  have ja0 : Bk (((w.alloc (.cells #[.int .i64 x0, .bool x1, .slice A2 x2.length c2, .slice A3 x3.length c3, .slice A4 x4.length c4] 133)).alloc (.cells #[.int .i64 0, .bool false, .slice none 0 0, .slice none 0 0, .slice none 0 0] 87)).alloc (.cells #[.int .i64 x0, .bool false, .slice none 0 0, .slice none 0 0, .slice none 0 0] 87)) w.heap.size 133 #[.int .i64 x0, .bool x1, .slice A2 x2.length c2, .slice A3 x3.length c3, .slice A4 x4.length c4] := ((Bk.new _ _ _).alloc _).alloc _
  have jr0 : Bk (((w.alloc (.cells #[.int .i64 x0, .bool x1, .slice A2 x2.length c2, .slice A3 x3.length c3, .slice A4 x4.length c4] 133)).alloc (.cells #[.int .i64 0, .bool false, .slice none 0 0, .slice none 0 0, .slice none 0 0] 87)).alloc (.cells #[.int .i64 x0, .bool false, .slice none 0 0, .slice none 0 0, .slice none 0 0] 87)) (w.heap.size + 1) 87 #[.int .i64 0, .bool false, .slice none 0 0, .slice none 0 0, .slice none 0 0] := by simpa using (Bk.new (w.alloc (.cells #[.int .i64 x0, .bool x1, .slice A2 x2.length c2, .slice A3 x3.length c3, .slice A4 x4.length c4] 133)) 87 #[.int .i64 0, .bool false, .slice none 0 0, .slice none 0 0, .slice none 0 0]).alloc (.cells #[.int .i64 x0, .bool false, .slice none 0 0, .slice none 0 0, .slice none 0 0] 87)
  have jo0 : Bk (((w.alloc (.cells #[.int .i64 x0, .bool x1, .slice A2 x2.length c2, .slice A3 x3.length c3, .slice A4 x4.length c4] 133)).alloc (.cells #[.int .i64 0, .bool false, .slice none 0 0, .slice none 0 0, .slice none 0 0] 87)).alloc (.cells #[.int .i64 x0, .bool false, .slice none 0 0, .slice none 0 0, .slice none 0 0] 87)) (w.heap.size + 1 + 1) 87 #[.int .i64 x0, .bool false, .slice none 0 0, .slice none 0 0, .slice none 0 0] := by simpa using Bk.new ((w.alloc (.cells #[.int .i64 x0, .bool x1, .slice A2 x2.length c2, .slice A3 x3.length c3, .slice A4 x4.length c4] 133)).alloc (.cells #[.int .i64 0, .bool false, .slice none 0 0, .slice none 0 0, .slice none 0 0] 87)) 87 #[.int .i64 x0, .bool false, .slice none 0 0, .slice none 0 0, .slice none 0 0]
  have sz0 : w.heap.size + 1 + 1 + 1 = (((w.alloc (.cells #[.int .i64 x0, .bool x1, .slice A2 x2.length c2, .slice A3 x3.length c3, .slice A4 x4.length c4] 133)).alloc (.cells #[.int .i64 0, .bool false, .slice none 0 0, .slice none 0 0, .slice none 0 0] 87)).alloc (.cells #[.int .i64 x0, .bool false, .slice none 0 0, .slice none 0 0, .slice none 0 0] 87)).heap.size := by simp
  refine (c_toPage _ (x1, x2, x3, x4) _ ⟨_, rfl, mkPage (x := (x1, x2, x3, x4)) (b2.up good_S vv0) (b3.up good_S vv0) (b4.up good_I vv0)⟩ hl1).mono ?_
  rintro e w1 ⟨cs1, bl1, rfl, o1, nd1, u1⟩
  obtain ⟨D2, d2, bm2, D3, d3, bm3, D4, d4, bm4, rfl, hbl1, _, _, _⟩ := openOPage o1
  have uu1 := vv0.trans u1
  have ka1 := ja0.up u1
  have kr1 := jr0.up u1
  have ko1 := jo0.up u1
  have zz1 := u1.size
  rw [← sz0] at zz1
  have s1_1 : shPage.own w1 (w.heap.size + 1 + 1 + 1) w1.heap.size [.bool x1, .slice D2 x2.length d2, .slice D3 x3.length d3, .slice D4 x4.length d4] (x1, x2, x3, x4) bl1 := by rw [sz0]; exact o1
  have nn1 : (bl1).Nodup := nd1
  have mm1 : ∀ b ∈ bl1, b < w1.heap.size := fun b hb => (good_Page.own_in s1_1 b hb).2
  clear ja0 jr0 jo0 u1 o1
  have ga1_0 : w1.cell? ⟨w.heap.size, 0, none⟩ = some (.int .i64 x0) := ka1.cell 0
  have gr1_0 : w1.cell? ⟨w.heap.size + 1, 0, none⟩ = some (.int .i64 0) := kr1.cell 0
  have go1_0 : w1.cell? ⟨w.heap.size + 1 + 1, 0, none⟩ = some (.int .i64 x0) := ko1.cell 0
  have fr1_0 := kr1.frozen 0
  have fo1_0 := ko1.frozen 0
  have ga1_1 : w1.cell? ⟨w.heap.size, 1, none⟩ = some (.bool x1) := ka1.cell 1
  have gr1_1 : w1.cell? ⟨w.heap.size + 1, 1, none⟩ = some (.bool false) := kr1.cell 1
  have go1_1 : w1.cell? ⟨w.heap.size + 1 + 1, 1, none⟩ = some (.bool false) := ko1.cell 1
  have fr1_1 := kr1.frozen 1
  have fo1_1 := ko1.frozen 1
  have ga1_2 : w1.cell? ⟨w.heap.size, 2, none⟩ = some (.slice A2 x2.length c2) := ka1.cell 2
  have gr1_2 : w1.cell? ⟨w.heap.size + 1, 2, none⟩ = some (.slice none 0 0) := kr1.cell 2
  have go1_2 : w1.cell? ⟨w.heap.size + 1 + 1, 2, none⟩ = some (.slice none 0 0) := ko1.cell 2
  have fr1_2 := kr1.frozen 2
  have fo1_2 := ko1.frozen 2
  have ga1_3 : w1.cell? ⟨w.heap.size, 3, none⟩ = some (.slice A3 x3.length c3) := ka1.cell 3
  have gr1_3 : w1.cell? ⟨w.heap.size + 1, 3, none⟩ = some (.slice none 0 0) := kr1.cell 3
  have go1_3 : w1.cell? ⟨w.heap.size + 1 + 1, 3, none⟩ = some (.slice none 0 0) := ko1.cell 3
  have fr1_3 := kr1.frozen 3
  have fo1_3 := ko1.frozen 3
  have ga1_4 : w1.cell? ⟨w.heap.size, 4, none⟩ = some (.slice A4 x4.length c4) := ka1.cell 4
  have gr1_4 : w1.cell? ⟨w.heap.size + 1, 4, none⟩ = some (.slice none 0 0) := kr1.cell 4
  have go1_4 : w1.cell? ⟨w.heap.size + 1 + 1, 4, none⟩ = some (.slice none 0 0) := ko1.cell 4
  have fr1_4 := kr1.frozen 4
  have fo1_4 := ko1.frozen 4
  go_wp2_with fail
  have z_1 := good_Page.own_wide (lo' := w.heap.size) (own_set good_Page (own_set good_Page s1_1 (w.heap.size + 1 + 1) 1 [.bool x1, .slice D2 x2.length d2, .slice D3 x3.length d3, .slice D4 x4.length d4] (by omega)) (w.heap.size + 1) 0 [.int .i64 x0, .bool x1, .slice D2 x2.length d2, .slice D3 x3.length d3, .slice D4 x4.length d4] (by omega)) (by omega) (Nat.le_refl _)
  have fu := ((uu1.sets (g := (w.heap.size + 1 + 1)) (by omega) 1 [.bool x1, .slice D2 x2.length d2, .slice D3 x3.length d3, .slice D4 x4.length d4]).sets (g := (w.heap.size + 1)) (by omega) 0 [.int .i64 x0, .bool x1, .slice D2 x2.length d2, .slice D3 x3.length d3, .slice D4 x4.length d4])
  refine bodyPost_ret (v := .agg #[.int .i64 x0, .bool x1, .slice D2 x2.length d2, .slice D3 x3.length d3, .slice D4 x4.length d4]) (by simp [results, Tryz.results88, go_sem, gr1_0, gr1_1, gr1_2, gr1_3, gr1_4]) rfl ?_
  exact ⟨[.int .i64 x0, .bool x1, .slice D2 x2.length d2, .slice D3 x3.length d3, .slice D4 x4.length d4], _, rfl, asmSlot b0 z_1, by simpa using nn1, fu⟩

theorem info_Slot : (Tryz.prog.info? 87).map (fun i => (i.zero, i.size, i.bytes)) = some (some (.agg #[.int .i64 0, .bool false, .slice none 0 0, .slice none 0 0, .slice none 0 0]), 5, 88) := by kernel_rfl
set_option maxHeartbeats 1000000 in
theorem c_toSlotS (xs : List TSlot) (A : Option Addr) (c : Nat) (w : World) (h : SRW shSlot w A c xs) (hn : (shL shSlot).sz xs ≤ 1048576) :
    Calls Tryz.prog 49 #[.slice A xs.length c] w (ToL shSlot xs w) := by
  have hl : xs.length ≤ 1048576 := Nat.le_trans (Nat.le_add_right _ _) hn
  obtain ⟨i0, hi0, hz0, hz1, hz2⟩ := info_parts info_Slot
  have hmk := fun W => run_make_rows (P := Tryz.prog) 51 87 i0 _ Tryz.underlying51 hi0 hz0 xs.length (by rw [hz2]; omega) (by omega) W
  rw [hz1] at hmk
  clear hi0 hz0 hz1 hz2
  obtain ⟨C0, hC0⟩ : ∃ C0, C0 = madeCells (Value.cells (.agg #[.int .i64 0, .bool false, .slice none 0 0, .slice none 0 0, .slice none 0 0])) (xs.length * 5) := ⟨_, rfl⟩
  rw [← hC0] at hmk
  have HB : Bld shSlot w.heap.size (w.alloc (.cells C0 87)) w.heap.size 87 C0 xs.length xs 0 :=
    Bld.start (Nat.le_refl _) (Bk.new _ _ _) (by rw [hC0, size_madeCells]; rfl)
  clear hC0
  go_enter Tryz.func49, Tryz.ntmps49
  go_wp2
  go_loopw [4] (fun i wr => ∃ (k : Nat) (C : Array Value), k ≤ xs.length ∧ i = .int .i64 k ∧ Bld shSlot w.heap.size wr w.heap.size 87 C xs.length xs k ∧ Up w wr) (fun i _ => xs.length - (intOf i).toNat)
  case atStart => exact ⟨0, C0, Nat.zero_le _, rfl, HB, (Up.refl _).alloc _⟩
  case round =>
    obtain ⟨k, C, hk, rfl, hB, hu⟩ := hrel
    by_cases hlt : k < xs.length
    · obtain ⟨g, off, A2, c2, A3, c3, A4, c4, rfl, _, _, hc0, hc1, hc2, hc3, hc4, b0, b2, b3, b4, _⟩ := atSlot (h.up good_Slot hu) hlt
      have hx := sz_le shSlot xs hlt hn
      go_wp2_with fail
      refine (c_toSlot _ xs[k] _ ⟨_, rfl, mkSlot (x := xs[k]) b0 b2 b3 b4⟩ hx).mono ?_
      rintro e w1 ⟨cs, bl, rfl, ho, hnd, u1⟩
      obtain ⟨D2, d2, _, D3, d3, _, D4, d4, _, rfl, rfl, _, _, _, _⟩ := openOSlot ho
      have hbk := hB.1.up u1
      have hC : C.size = xs.length * 5 := hB.2.1
      obtain ⟨o0, hm0⟩ : ∃ o, w1.cell? ⟨w.heap.size, k * 5, none⟩ = some o := by rw [hbk.cell]; exact ⟨_, Array.getElem?_eq_getElem (by omega)⟩
      have hf0 := hbk.frozen (k * 5)
      obtain ⟨o1, hm1⟩ : ∃ o, w1.cell? ⟨w.heap.size, k * 5 + 1, none⟩ = some o := by rw [hbk.cell]; exact ⟨_, Array.getElem?_eq_getElem (by omega)⟩
      have hf1 := hbk.frozen (k * 5 + 1)
      obtain ⟨o2, hm2⟩ : ∃ o, w1.cell? ⟨w.heap.size, k * 5 + 2, none⟩ = some o := by rw [hbk.cell]; exact ⟨_, Array.getElem?_eq_getElem (by omega)⟩
      have hf2 := hbk.frozen (k * 5 + 2)
      obtain ⟨o3, hm3⟩ : ∃ o, w1.cell? ⟨w.heap.size, k * 5 + 3, none⟩ = some o := by rw [hbk.cell]; exact ⟨_, Array.getElem?_eq_getElem (by omega)⟩
      have hf3 := hbk.frozen (k * 5 + 3)
      obtain ⟨o4, hm4⟩ : ∃ o, w1.cell? ⟨w.heap.size, k * 5 + 4, none⟩ = some o := by rw [hbk.cell]; exact ⟨_, Array.getElem?_eq_getElem (by omega)⟩
      have hf4 := hbk.frozen (k * 5 + 4)
      go_wp2_with fail
      go_roundw
      case rel => exact ⟨k + 1, _, by omega, by go_num, hB.push good_Slot u1 ho hnd (List.getElem?_eq_getElem hlt) hlt (But.sets [_, _, _, _, _] _ _) (Bk.sets [_, _, _, _, _] hbk _), (hu.trans u1).sets (Nat.le_refl _) _ [_, _, _, _, _]⟩
      case measure => simp [intOf]; omega
    · obtain ⟨bl, hso, hnd⟩ := hB.done (c := xs.length) (by omega) (Nat.le_refl _) (by unfold maxLen; omega) (Nat.le_refl _)
      go_wp2
      go_ret
      exact ⟨_, _, bl, rfl, hso, hnd, hu⟩

theorem asmBtree {w : World} {lo hi : Nat} {x0 : Int} {x1 : List TSlot} {D1 : Option Addr} {d1 : Nat} {bl1 : List Nat} (h0 : I64 x0) (h1 : SO shSlot w lo hi D1 d1 x1 bl1) : shBtree.own w lo hi [.int .i64 x0, .slice D1 x1.length d1] (x0, x1) (bl1) := by
  have h : shBtree.own w lo hi [.int .i64 x0, .slice D1 x1.length d1] (x0, x1) _ := (mkO_P (a := shI) (x := (x0, x1)) good_I ⟨⟨rfl, h0⟩, rfl⟩ ⟨D1, d1, rfl, h1⟩)
  simpa using h
set_option maxRecDepth 100000 in
set_option maxHeartbeats 4000000 in
theorem c_toBtree (v : Value) (x : TBtree) (w : World) (h : AV shBtree w v x) (hn : shBtree.sz x ≤ 1048576) :
    Calls Tryz.prog 21 #[v] w (ToV shBtree x w) := by
  obtain ⟨cs, rfl, h⟩ := h
  obtain ⟨x0, x1⟩ := x
  have ho := openBtree h
  try dsimp only at ho
  obtain ⟨A1, c1, rfl, b0, b1⟩ := ho
  have hs : shBtree.sz (x0, x1) = 0 + ((shL shSlot).sz x1) := rfl
  have hl1 : (shL shSlot).sz x1 ≤ 1048576 := by omega
  clear hs hn
  go_enter Tryz.func21, Tryz.ntmps21
  go_wp2_with fail
  have vv0 : Up w (((w.alloc (.cells #[.int .i64 x0, .slice A1 x1.length c1] 46)).alloc (.cells #[.int .i64 0, .slice none 0 0] 53)).alloc (.cells #[.int .i64 x0, .slice none 0 0] 53)) := (((Up.refl _).alloc _).alloc _).alloc _
  have ja0 : Bk (((w.alloc (.cells #[.int .i64 x0, .slice A1 x1.length c1] 46)).alloc (.cells #[.int .i64 0, .slice none 0 0] 53)).alloc (.cells #[.int .i64 x0, .slice none 0 0] 53)) w.heap.size 46 #[.int .i64 x0, .slice A1 x1.length c1] := ((Bk.new _ _ _).alloc _).alloc _
  have jr0 : Bk (((w.alloc (.cells #[.int .i64 x0, .slice A1 x1.length c1] 46)).alloc (.cells #[.int .i64 0, .slice none 0 0] 53)).alloc (.cells #[.int .i64 x0, .slice none 0 0] 53)) (w.heap.size + 1) 53 #[.int .i64 0, .slice none 0 0] := by simpa using (Bk.new (w.alloc (.cells #[.int .i64 x0, .slice A1 x1.length c1] 46)) 53 #[.int .i64 0, .slice none 0 0]).alloc (.cells #[.int .i64 x0, .slice none 0 0] 53)
  have jo0 : Bk (((w.alloc (.cells #[.int .i64 x0, .slice A1 x1.length c1] 46)).alloc (.cells #[.int .i64 0, .slice none 0 0] 53)).alloc (.cells #[.int .i64 x0, .slice none 0 0] 53)) (w.heap.size + 1 + 1) 53 #[.int .i64 x0, .slice none 0 0] := by simpa using Bk.new ((w.alloc (.cells #[.int .i64 x0, .slice A1 x1.length c1] 46)).alloc (.cells #[.int .i64 0, .slice none 0 0] 53)) 53 #[.int .i64 x0, .slice none 0 0]
  have sz0 : w.heap.size + 1 + 1 + 1 = (((w.alloc (.cells #[.int .i64 x0, .slice A1 x1.length c1] 46)).alloc (.cells #[.int .i64 0, .slice none 0 0] 53)).alloc (.cells #[.int .i64 x0, .slice none 0 0] 53)).heap.size := by simp
  refine (c_toSlotS _ _ _ _ (b1.up good_Slot vv0) hl1).mono ?_
  rintro e w1 ⟨D1, d1, bl1, rfl, o1, nd1, u1⟩
  have uu1 := vv0.trans u1
  have ka1 := ja0.up u1
  have kr1 := jr0.up u1
  have ko1 := jo0.up u1
  have zz1 := u1.size
  rw [← sz0] at zz1
  have s1_1 : SO shSlot w1 (w.heap.size + 1 + 1 + 1) w1.heap.size D1 d1 x1 bl1 := by rw [sz0]; exact o1
  have nn1 : (bl1).Nodup := nd1
  have mm1 : ∀ b ∈ bl1, b < w1.heap.size := fun b hb => (s1_1.in_ good_Slot b hb).2
  clear ja0 jr0 jo0 u1 o1
  have ga1_0 : w1.cell? ⟨w.heap.size, 0, none⟩ = some (.int .i64 x0) := ka1.cell 0
  have gr1_0 : w1.cell? ⟨w.heap.size + 1, 0, none⟩ = some (.int .i64 0) := kr1.cell 0
  have go1_0 : w1.cell? ⟨w.heap.size + 1 + 1, 0, none⟩ = some (.int .i64 x0) := ko1.cell 0
  have fr1_0 := kr1.frozen 0
  have fo1_0 := ko1.frozen 0
  have ga1_1 : w1.cell? ⟨w.heap.size, 1, none⟩ = some (.slice A1 x1.length c1) := ka1.cell 1
  have gr1_1 : w1.cell? ⟨w.heap.size + 1, 1, none⟩ = some (.slice none 0 0) := kr1.cell 1
  have go1_1 : w1.cell? ⟨w.heap.size + 1 + 1, 1, none⟩ = some (.slice none 0 0) := ko1.cell 1
  have fr1_1 := kr1.frozen 1
  have fo1_1 := ko1.frozen 1
  go_wp2_with fail
  have z_1 := ((s1_1.set good_Slot (w.heap.size + 1 + 1) 1 [.slice D1 x1.length d1] (by omega)).set good_Slot (w.heap.size + 1) 0 [.int .i64 x0, .slice D1 x1.length d1] (by omega)).wide good_Slot (lo' := w.heap.size) (by omega) (Nat.le_refl _)
  have fu := ((uu1.sets (g := (w.heap.size + 1 + 1)) (by omega) 1 [.slice D1 x1.length d1]).sets (g := (w.heap.size + 1)) (by omega) 0 [.int .i64 x0, .slice D1 x1.length d1])
  refine bodyPost_ret (v := .agg #[.int .i64 x0, .slice D1 x1.length d1]) (by simp [results, Tryz.results21, go_sem, gr1_0, gr1_1]) rfl ?_
  exact ⟨[.int .i64 x0, .slice D1 x1.length d1], _, rfl, asmBtree b0 z_1, by simpa using nn1, fu⟩

theorem asmNode {w : World} {lo hi : Nat} {x0 : ByteArray} {x1 : List ByteArray} {D1 : Option Addr} {d1 : Nat} {x2 : ByteArray} {bl1 : List Nat} (h0 : x0.size ≤ maxLen) (h1 : SO shS w lo hi D1 d1 x1 bl1) (h2 : x2.size ≤ maxLen) : shNode.own w lo hi [.string x0, .slice D1 x1.length d1, .string x2] (x0, x1, x2) (bl1) := by
  have h : shNode.own w lo hi [.string x0, .slice D1 x1.length d1, .string x2] (x0, x1, x2) _ := (mkO_P (a := shS) (x := (x0, x1, x2)) good_S ⟨⟨rfl, h0⟩, rfl⟩ (mkO_P (a := (shL shS)) (x := (x1, x2)) (good_L good_S) ⟨D1, d1, rfl, h1⟩ ⟨⟨rfl, h2⟩, rfl⟩))
  simpa using h
set_option maxRecDepth 100000 in
set_option maxHeartbeats 4000000 in
theorem c_toNode (v : Value) (x : TNode) (w : World) (h : AV shNode w v x) (hn : shNode.sz x ≤ 1048576) :
    Calls Tryz.prog 75 #[v] w (ToV shNode x w) := by
  obtain ⟨cs, rfl, h⟩ := h
  obtain ⟨x0, x1, x2⟩ := x
  have ho := openNode h
  try dsimp only at ho
  obtain ⟨A1, c1, rfl, b0, b1, b2⟩ := ho
  have hs : shNode.sz (x0, x1, x2) = x0.size + ((shL shS).sz x1 + (x2.size)) := rfl
  have hl1 : (shL shS).sz x1 ≤ 1048576 := by omega
  clear hs hn
  go_enter Tryz.func75, Tryz.ntmps75
  go_wp2_with fail
  have vv0 : Up w (((w.alloc (.cells #[.string x0, .slice A1 x1.length c1, .string x2] 114)).alloc (.cells #[.string ⟨#[]⟩, .slice none 0 0, .string ⟨#[]⟩] 119)).alloc (.cells #[.string x0, .slice none 0 0, .string ⟨#[]⟩] 119)) := (((Up.refl _).alloc _).alloc _).alloc _
  have ja0 : Bk (((w.alloc (.cells #[.string x0, .slice A1 x1.length c1, .string x2] 114)).alloc (.cells #[.string ⟨#[]⟩, .slice none 0 0, .string ⟨#[]⟩] 119)).alloc (.cells #[.string x0, .slice none 0 0, .string ⟨#[]⟩] 119)) w.heap.size 114 #[.string x0, .slice A1 x1.length c1, .string x2] := ((Bk.new _ _ _).alloc _).alloc _
  have jr0 : Bk (((w.alloc (.cells #[.string x0, .slice A1 x1.length c1, .string x2] 114)).alloc (.cells #[.string ⟨#[]⟩, .slice none 0 0, .string ⟨#[]⟩] 119)).alloc (.cells #[.string x0, .slice none 0 0, .string ⟨#[]⟩] 119)) (w.heap.size + 1) 119 #[.string ⟨#[]⟩, .slice none 0 0, .string ⟨#[]⟩] := by simpa using (Bk.new (w.alloc (.cells #[.string x0, .slice A1 x1.length c1, .string x2] 114)) 119 #[.string ⟨#[]⟩, .slice none 0 0, .string ⟨#[]⟩]).alloc (.cells #[.string x0, .slice none 0 0, .string ⟨#[]⟩] 119)
  have jo0 : Bk (((w.alloc (.cells #[.string x0, .slice A1 x1.length c1, .string x2] 114)).alloc (.cells #[.string ⟨#[]⟩, .slice none 0 0, .string ⟨#[]⟩] 119)).alloc (.cells #[.string x0, .slice none 0 0, .string ⟨#[]⟩] 119)) (w.heap.size + 1 + 1) 119 #[.string x0, .slice none 0 0, .string ⟨#[]⟩] := by simpa using Bk.new ((w.alloc (.cells #[.string x0, .slice A1 x1.length c1, .string x2] 114)).alloc (.cells #[.string ⟨#[]⟩, .slice none 0 0, .string ⟨#[]⟩] 119)) 119 #[.string x0, .slice none 0 0, .string ⟨#[]⟩]
  have sz0 : w.heap.size + 1 + 1 + 1 = (((w.alloc (.cells #[.string x0, .slice A1 x1.length c1, .string x2] 114)).alloc (.cells #[.string ⟨#[]⟩, .slice none 0 0, .string ⟨#[]⟩] 119)).alloc (.cells #[.string x0, .slice none 0 0, .string ⟨#[]⟩] 119)).heap.size := by simp
  refine (c_toStringS _ _ _ _ (b1.up good_S vv0) hl1).mono ?_
  rintro e w1 ⟨D1, d1, bl1, rfl, o1, nd1, u1⟩
  have uu1 := vv0.trans u1
  have ka1 := ja0.up u1
  have kr1 := jr0.up u1
  have ko1 := jo0.up u1
  have zz1 := u1.size
  rw [← sz0] at zz1
  have s1_1 : SO shS w1 (w.heap.size + 1 + 1 + 1) w1.heap.size D1 d1 x1 bl1 := by rw [sz0]; exact o1
  have nn1 : (bl1).Nodup := nd1
  have mm1 : ∀ b ∈ bl1, b < w1.heap.size := fun b hb => (s1_1.in_ good_S b hb).2
  clear ja0 jr0 jo0 u1 o1
  have ga1_0 : w1.cell? ⟨w.heap.size, 0, none⟩ = some (.string x0) := ka1.cell 0
  have gr1_0 : w1.cell? ⟨w.heap.size + 1, 0, none⟩ = some (.string ⟨#[]⟩) := kr1.cell 0
  have go1_0 : w1.cell? ⟨w.heap.size + 1 + 1, 0, none⟩ = some (.string x0) := ko1.cell 0
  have fr1_0 := kr1.frozen 0
  have fo1_0 := ko1.frozen 0
  have ga1_1 : w1.cell? ⟨w.heap.size, 1, none⟩ = some (.slice A1 x1.length c1) := ka1.cell 1
  have gr1_1 : w1.cell? ⟨w.heap.size + 1, 1, none⟩ = some (.slice none 0 0) := kr1.cell 1
  have go1_1 : w1.cell? ⟨w.heap.size + 1 + 1, 1, none⟩ = some (.slice none 0 0) := ko1.cell 1
  have fr1_1 := kr1.frozen 1
  have fo1_1 := ko1.frozen 1
  have ga1_2 : w1.cell? ⟨w.heap.size, 2, none⟩ = some (.string x2) := ka1.cell 2
  have gr1_2 : w1.cell? ⟨w.heap.size + 1, 2, none⟩ = some (.string ⟨#[]⟩) := kr1.cell 2
  have go1_2 : w1.cell? ⟨w.heap.size + 1 + 1, 2, none⟩ = some (.string ⟨#[]⟩) := ko1.cell 2
  have fr1_2 := kr1.frozen 2
  have fo1_2 := ko1.frozen 2
  go_wp2_with fail
  have z_1 := (((s1_1.set good_S (w.heap.size + 1 + 1) 1 [.slice D1 x1.length d1] (by omega)).set good_S (w.heap.size + 1 + 1) 2 [.string x2] (by omega)).set good_S (w.heap.size + 1) 0 [.string x0, .slice D1 x1.length d1, .string x2] (by omega)).wide good_S (lo' := w.heap.size) (by omega) (Nat.le_refl _)
  have fu := (((uu1.sets (g := (w.heap.size + 1 + 1)) (by omega) 1 [.slice D1 x1.length d1]).sets (g := (w.heap.size + 1 + 1)) (by omega) 2 [.string x2]).sets (g := (w.heap.size + 1)) (by omega) 0 [.string x0, .slice D1 x1.length d1, .string x2])
  refine bodyPost_ret (v := .agg #[.string x0, .slice D1 x1.length d1, .string x2]) (by simp [results, Tryz.results75, go_sem, gr1_0, gr1_1, gr1_2]) rfl ?_
  exact ⟨[.string x0, .slice D1 x1.length d1, .string x2], _, rfl, asmNode b0 z_1 b2, by simpa using nn1, fu⟩

theorem info_Node : (Tryz.prog.info? 119).map (fun i => (i.zero, i.size, i.bytes)) = some (some (.agg #[.string ⟨#[]⟩, .slice none 0 0, .string ⟨#[]⟩]), 3, 56) := by kernel_rfl
set_option maxHeartbeats 1000000 in
theorem c_toNodeS (xs : List TNode) (A : Option Addr) (c : Nat) (w : World) (h : SRW shNode w A c xs) (hn : (shL shNode).sz xs ≤ 1048576) :
    Calls Tryz.prog 35 #[.slice A xs.length c] w (ToL shNode xs w) := by
  have hl : xs.length ≤ 1048576 := Nat.le_trans (Nat.le_add_right _ _) hn
  obtain ⟨i0, hi0, hz0, hz1, hz2⟩ := info_parts info_Node
  have hmk := fun W => run_make_rows (P := Tryz.prog) 31 119 i0 _ Tryz.underlying31 hi0 hz0 xs.length (by rw [hz2]; omega) (by omega) W
  rw [hz1] at hmk
  clear hi0 hz0 hz1 hz2
  obtain ⟨C0, hC0⟩ : ∃ C0, C0 = madeCells (Value.cells (.agg #[.string ⟨#[]⟩, .slice none 0 0, .string ⟨#[]⟩])) (xs.length * 3) := ⟨_, rfl⟩
  rw [← hC0] at hmk
  have HB : Bld shNode w.heap.size (w.alloc (.cells C0 119)) w.heap.size 119 C0 xs.length xs 0 :=
    Bld.start (Nat.le_refl _) (Bk.new _ _ _) (by rw [hC0, size_madeCells]; rfl)
  clear hC0
  go_enter Tryz.func35, Tryz.ntmps35
  go_wp2
  go_loopw [4] (fun i wr => ∃ (k : Nat) (C : Array Value), k ≤ xs.length ∧ i = .int .i64 k ∧ Bld shNode w.heap.size wr w.heap.size 119 C xs.length xs k ∧ Up w wr) (fun i _ => xs.length - (intOf i).toNat)
  case atStart => exact ⟨0, C0, Nat.zero_le _, rfl, HB, (Up.refl _).alloc _⟩
  case round =>
    obtain ⟨k, C, hk, rfl, hB, hu⟩ := hrel
    by_cases hlt : k < xs.length
    · obtain ⟨g, off, A1, c1, rfl, _, _, hc0, hc1, hc2, b0, b1, b2, _⟩ := atNode (h.up good_Node hu) hlt
      have hx := sz_le shNode xs hlt hn
      go_wp2_with fail
      refine (c_toNode _ xs[k] _ ⟨_, rfl, mkNode (x := xs[k]) b0 b1 b2⟩ hx).mono ?_
      rintro e w1 ⟨cs, bl, rfl, ho, hnd, u1⟩
      obtain ⟨D1, d1, _, rfl, rfl, _, _, _⟩ := openONode ho
      have hbk := hB.1.up u1
      have hC : C.size = xs.length * 3 := hB.2.1
      obtain ⟨o0, hm0⟩ : ∃ o, w1.cell? ⟨w.heap.size, k * 3, none⟩ = some o := by rw [hbk.cell]; exact ⟨_, Array.getElem?_eq_getElem (by omega)⟩
      have hf0 := hbk.frozen (k * 3)
      obtain ⟨o1, hm1⟩ : ∃ o, w1.cell? ⟨w.heap.size, k * 3 + 1, none⟩ = some o := by rw [hbk.cell]; exact ⟨_, Array.getElem?_eq_getElem (by omega)⟩
      have hf1 := hbk.frozen (k * 3 + 1)
      obtain ⟨o2, hm2⟩ : ∃ o, w1.cell? ⟨w.heap.size, k * 3 + 2, none⟩ = some o := by rw [hbk.cell]; exact ⟨_, Array.getElem?_eq_getElem (by omega)⟩
      have hf2 := hbk.frozen (k * 3 + 2)
      go_wp2_with fail
      go_roundw
      case rel => exact ⟨k + 1, _, by omega, by go_num, hB.push good_Node u1 ho hnd (List.getElem?_eq_getElem hlt) hlt (But.sets [_, _, _] _ _) (Bk.sets [_, _, _] hbk _), (hu.trans u1).sets (Nat.le_refl _) _ [_, _, _]⟩
      case measure => simp [intOf]; omega
    · obtain ⟨bl, hso, hnd⟩ := hB.done (c := xs.length) (by omega) (Nat.le_refl _) (by unfold maxLen; omega) (Nat.le_refl _)
      go_wp2
      go_ret
      exact ⟨_, _, bl, rfl, hso, hnd, hu⟩

theorem asmTree {w : World} {lo hi : Nat} {x0 : List TNode} {D0 : Option Addr} {d0 : Nat} {bl0 : List Nat} (h0 : SO shNode w lo hi D0 d0 x0 bl0) : shTree.own w lo hi [.slice D0 x0.length d0] x0 (bl0) := by
  have h : shTree.own w lo hi [.slice D0 x0.length d0] x0 _ := ⟨D0, d0, rfl, h0⟩
  simpa using h
set_option maxRecDepth 100000 in
set_option maxHeartbeats 4000000 in
theorem c_toTree (v : Value) (x : TTree) (w : World) (h : AV shTree w v x) (hn : shTree.sz x ≤ 1048576) :
    Calls Tryz.prog 9 #[v] w (ToV shTree x w) := by
  obtain ⟨cs, rfl, h⟩ := h
  obtain ⟨x0, rfl⟩ : ∃ q, q = x := ⟨_, rfl⟩
  have ho := openTree h
  try dsimp only at ho
  obtain ⟨A0, c0, rfl, b0⟩ := ho
  have hs : shTree.sz x0 = (shL shNode).sz x0 := rfl
  have hl0 : (shL shNode).sz x0 ≤ 1048576 := by omega
  clear hs hn
  go_enter Tryz.func9, Tryz.ntmps9
  go_wp2_with fail
  have vv0 : Up w (((w.alloc (.cells #[.slice A0 x0.length c0] 24)).alloc (.cells #[.slice none 0 0] 33)).alloc (.cells #[.slice none 0 0] 33)) := (((Up.refl _).alloc _).alloc _).alloc _
  have ja0 : Bk (((w.alloc (.cells #[.slice A0 x0.length c0] 24)).alloc (.cells #[.slice none 0 0] 33)).alloc (.cells #[.slice none 0 0] 33)) w.heap.size 24 #[.slice A0 x0.length c0] := ((Bk.new _ _ _).alloc _).alloc _
  have jr0 : Bk (((w.alloc (.cells #[.slice A0 x0.length c0] 24)).alloc (.cells #[.slice none 0 0] 33)).alloc (.cells #[.slice none 0 0] 33)) (w.heap.size + 1) 33 #[.slice none 0 0] := by simpa using (Bk.new (w.alloc (.cells #[.slice A0 x0.length c0] 24)) 33 #[.slice none 0 0]).alloc (.cells #[.slice none 0 0] 33)
  have jo0 : Bk (((w.alloc (.cells #[.slice A0 x0.length c0] 24)).alloc (.cells #[.slice none 0 0] 33)).alloc (.cells #[.slice none 0 0] 33)) (w.heap.size + 1 + 1) 33 #[.slice none 0 0] := by simpa using Bk.new ((w.alloc (.cells #[.slice A0 x0.length c0] 24)).alloc (.cells #[.slice none 0 0] 33)) 33 #[.slice none 0 0]
  have sz0 : w.heap.size + 1 + 1 + 1 = (((w.alloc (.cells #[.slice A0 x0.length c0] 24)).alloc (.cells #[.slice none 0 0] 33)).alloc (.cells #[.slice none 0 0] 33)).heap.size := by simp
  refine (c_toNodeS _ _ _ _ (b0.up good_Node vv0) hl0).mono ?_
  rintro e w1 ⟨D0, d0, bl0, rfl, o0, nd0, u1⟩
  have uu1 := vv0.trans u1
  have ka1 := ja0.up u1
  have kr1 := jr0.up u1
  have ko1 := jo0.up u1
  have zz1 := u1.size
  rw [← sz0] at zz1
  have s1_0 : SO shNode w1 (w.heap.size + 1 + 1 + 1) w1.heap.size D0 d0 x0 bl0 := by rw [sz0]; exact o0
  have nn1 : (bl0).Nodup := nd0
  have mm1 : ∀ b ∈ bl0, b < w1.heap.size := fun b hb => (s1_0.in_ good_Node b hb).2
  clear ja0 jr0 jo0 u1 o0
  have ga1_0 : w1.cell? ⟨w.heap.size, 0, none⟩ = some (.slice A0 x0.length c0) := ka1.cell 0
  have gr1_0 : w1.cell? ⟨w.heap.size + 1, 0, none⟩ = some (.slice none 0 0) := kr1.cell 0
  have go1_0 : w1.cell? ⟨w.heap.size + 1 + 1, 0, none⟩ = some (.slice none 0 0) := ko1.cell 0
  have fr1_0 := kr1.frozen 0
  have fo1_0 := ko1.frozen 0
  go_wp2_with fail
  have z_0 := ((s1_0.set good_Node (w.heap.size + 1 + 1) 0 [.slice D0 x0.length d0] (by omega)).set good_Node (w.heap.size + 1) 0 [.slice D0 x0.length d0] (by omega)).wide good_Node (lo' := w.heap.size) (by omega) (Nat.le_refl _)
  have fu := ((uu1.sets (g := (w.heap.size + 1 + 1)) (by omega) 0 [.slice D0 x0.length d0]).sets (g := (w.heap.size + 1)) (by omega) 0 [.slice D0 x0.length d0])
  refine bodyPost_ret (v := .agg #[.slice D0 x0.length d0]) (by simp [results, Tryz.results9, go_sem, gr1_0]) rfl ?_
  exact ⟨[.slice D0 x0.length d0], _, rfl, asmTree z_0, by simpa using nn1, fu⟩

theorem asmChange {w : World} {lo hi : Nat} {x0 : Int} {x1 : ByteArray} {x2 : List ByteArray} {D2 : Option Addr} {d2 : Nat} {x3 : ByteArray} {bl2 : List Nat} (h0 : I64 x0) (h1 : x1.size ≤ maxLen) (h2 : SO shS w lo hi D2 d2 x2 bl2) (h3 : x3.size ≤ maxLen) : shChange.own w lo hi [.int .i64 x0, .string x1, .slice D2 x2.length d2, .string x3] (x0, x1, x2, x3) (bl2) := by
  have h : shChange.own w lo hi [.int .i64 x0, .string x1, .slice D2 x2.length d2, .string x3] (x0, x1, x2, x3) _ := (mkO_P (a := shI) (x := (x0, x1, x2, x3)) good_I ⟨⟨rfl, h0⟩, rfl⟩ (mkO_P (a := shS) (x := (x1, x2, x3)) good_S ⟨⟨rfl, h1⟩, rfl⟩ (mkO_P (a := (shL shS)) (x := (x2, x3)) (good_L good_S) ⟨D2, d2, rfl, h2⟩ ⟨⟨rfl, h3⟩, rfl⟩)))
  simpa using h
set_option maxRecDepth 100000 in
set_option maxHeartbeats 4000000 in
theorem c_toChange (v : Value) (x : TChange) (w : World) (h : AV shChange w v x) (hn : shChange.sz x ≤ 1048576) :
    Calls Tryz.prog 36 #[v] w (ToV shChange x w) := by
  obtain ⟨cs, rfl, h⟩ := h
  obtain ⟨x0, x1, x2, x3⟩ := x
  have ho := openChange h
  try dsimp only at ho
  obtain ⟨A2, c2, rfl, b0, b1, b2, b3⟩ := ho
  have hs : shChange.sz (x0, x1, x2, x3) = 0 + (x1.size + ((shL shS).sz x2 + (x3.size))) := rfl
  have hl2 : (shL shS).sz x2 ≤ 1048576 := by omega
  clear hs hn
  go_enter Tryz.func36, Tryz.ntmps36
  go_wp2_with fail
  have vv0 : Up w (((w.alloc (.cells #[.int .i64 x0, .string x1, .slice A2 x2.length c2, .string x3] 67)).alloc (.cells #[.int .i64 0, .string ⟨#[]⟩, .slice none 0 0, .string ⟨#[]⟩] 72)).alloc (.cells #[.int .i64 x0, .string x1, .slice none 0 0, .string ⟨#[]⟩] 72)) := (((Up.refl _).alloc _).alloc _).alloc _
  have ja0 : Bk (((w.alloc (.cells #[.int .i64 x0, .string x1, .slice A2 x2.length c2, .string x3] 67)).alloc (.cells #[.int .i64 0, .string ⟨#[]⟩, .slice none 0 0, .string ⟨#[]⟩] 72)).alloc (.cells #[.int .i64 x0, .string x1, .slice none 0 0, .string ⟨#[]⟩] 72)) w.heap.size 67 #[.int .i64 x0, .string x1, .slice A2 x2.length c2, .string x3] := ((Bk.new _ _ _).alloc _).alloc _
  have jr0 : Bk (((w.alloc (.cells #[.int .i64 x0, .string x1, .slice A2 x2.length c2, .string x3] 67)).alloc (.cells #[.int .i64 0, .string ⟨#[]⟩, .slice none 0 0, .string ⟨#[]⟩] 72)).alloc (.cells #[.int .i64 x0, .string x1, .slice none 0 0, .string ⟨#[]⟩] 72)) (w.heap.size + 1) 72 #[.int .i64 0, .string ⟨#[]⟩, .slice none 0 0, .string ⟨#[]⟩] := by simpa using (Bk.new (w.alloc (.cells #[.int .i64 x0, .string x1, .slice A2 x2.length c2, .string x3] 67)) 72 #[.int .i64 0, .string ⟨#[]⟩, .slice none 0 0, .string ⟨#[]⟩]).alloc (.cells #[.int .i64 x0, .string x1, .slice none 0 0, .string ⟨#[]⟩] 72)
  have jo0 : Bk (((w.alloc (.cells #[.int .i64 x0, .string x1, .slice A2 x2.length c2, .string x3] 67)).alloc (.cells #[.int .i64 0, .string ⟨#[]⟩, .slice none 0 0, .string ⟨#[]⟩] 72)).alloc (.cells #[.int .i64 x0, .string x1, .slice none 0 0, .string ⟨#[]⟩] 72)) (w.heap.size + 1 + 1) 72 #[.int .i64 x0, .string x1, .slice none 0 0, .string ⟨#[]⟩] := by simpa using Bk.new ((w.alloc (.cells #[.int .i64 x0, .string x1, .slice A2 x2.length c2, .string x3] 67)).alloc (.cells #[.int .i64 0, .string ⟨#[]⟩, .slice none 0 0, .string ⟨#[]⟩] 72)) 72 #[.int .i64 x0, .string x1, .slice none 0 0, .string ⟨#[]⟩]
  have sz0 : w.heap.size + 1 + 1 + 1 = (((w.alloc (.cells #[.int .i64 x0, .string x1, .slice A2 x2.length c2, .string x3] 67)).alloc (.cells #[.int .i64 0, .string ⟨#[]⟩, .slice none 0 0, .string ⟨#[]⟩] 72)).alloc (.cells #[.int .i64 x0, .string x1, .slice none 0 0, .string ⟨#[]⟩] 72)).heap.size := by simp
  refine (c_toStringS _ _ _ _ (b2.up good_S vv0) hl2).mono ?_
  rintro e w1 ⟨D2, d2, bl2, rfl, o2, nd2, u1⟩
  have uu1 := vv0.trans u1
  have ka1 := ja0.up u1
  have kr1 := jr0.up u1
  have ko1 := jo0.up u1
  have zz1 := u1.size
  rw [← sz0] at zz1
  have s1_2 : SO shS w1 (w.heap.size + 1 + 1 + 1) w1.heap.size D2 d2 x2 bl2 := by rw [sz0]; exact o2
  have nn1 : (bl2).Nodup := nd2
  have mm1 : ∀ b ∈ bl2, b < w1.heap.size := fun b hb => (s1_2.in_ good_S b hb).2
  clear ja0 jr0 jo0 u1 o2
  have ga1_0 : w1.cell? ⟨w.heap.size, 0, none⟩ = some (.int .i64 x0) := ka1.cell 0
  have gr1_0 : w1.cell? ⟨w.heap.size + 1, 0, none⟩ = some (.int .i64 0) := kr1.cell 0
  have go1_0 : w1.cell? ⟨w.heap.size + 1 + 1, 0, none⟩ = some (.int .i64 x0) := ko1.cell 0
  have fr1_0 := kr1.frozen 0
  have fo1_0 := ko1.frozen 0
  have ga1_1 : w1.cell? ⟨w.heap.size, 1, none⟩ = some (.string x1) := ka1.cell 1
  have gr1_1 : w1.cell? ⟨w.heap.size + 1, 1, none⟩ = some (.string ⟨#[]⟩) := kr1.cell 1
  have go1_1 : w1.cell? ⟨w.heap.size + 1 + 1, 1, none⟩ = some (.string x1) := ko1.cell 1
  have fr1_1 := kr1.frozen 1
  have fo1_1 := ko1.frozen 1
  have ga1_2 : w1.cell? ⟨w.heap.size, 2, none⟩ = some (.slice A2 x2.length c2) := ka1.cell 2
  have gr1_2 : w1.cell? ⟨w.heap.size + 1, 2, none⟩ = some (.slice none 0 0) := kr1.cell 2
  have go1_2 : w1.cell? ⟨w.heap.size + 1 + 1, 2, none⟩ = some (.slice none 0 0) := ko1.cell 2
  have fr1_2 := kr1.frozen 2
  have fo1_2 := ko1.frozen 2
  have ga1_3 : w1.cell? ⟨w.heap.size, 3, none⟩ = some (.string x3) := ka1.cell 3
  have gr1_3 : w1.cell? ⟨w.heap.size + 1, 3, none⟩ = some (.string ⟨#[]⟩) := kr1.cell 3
  have go1_3 : w1.cell? ⟨w.heap.size + 1 + 1, 3, none⟩ = some (.string ⟨#[]⟩) := ko1.cell 3
  have fr1_3 := kr1.frozen 3
  have fo1_3 := ko1.frozen 3
  go_wp2_with fail
  have z_2 := (((s1_2.set good_S (w.heap.size + 1 + 1) 2 [.slice D2 x2.length d2] (by omega)).set good_S (w.heap.size + 1 + 1) 3 [.string x3] (by omega)).set good_S (w.heap.size + 1) 0 [.int .i64 x0, .string x1, .slice D2 x2.length d2, .string x3] (by omega)).wide good_S (lo' := w.heap.size) (by omega) (Nat.le_refl _)
  have fu := (((uu1.sets (g := (w.heap.size + 1 + 1)) (by omega) 2 [.slice D2 x2.length d2]).sets (g := (w.heap.size + 1 + 1)) (by omega) 3 [.string x3]).sets (g := (w.heap.size + 1)) (by omega) 0 [.int .i64 x0, .string x1, .slice D2 x2.length d2, .string x3])
  refine bodyPost_ret (v := .agg #[.int .i64 x0, .string x1, .slice D2 x2.length d2, .string x3]) (by simp [results, Tryz.results36, go_sem, gr1_0, gr1_1, gr1_2, gr1_3]) rfl ?_
  exact ⟨[.int .i64 x0, .string x1, .slice D2 x2.length d2, .string x3], _, rfl, asmChange b0 b1 z_2 b3, by simpa using nn1, fu⟩

theorem info_Change : (Tryz.prog.info? 72).map (fun i => (i.zero, i.size, i.bytes)) = some (some (.agg #[.int .i64 0, .string ⟨#[]⟩, .slice none 0 0, .string ⟨#[]⟩]), 4, 64) := by kernel_rfl
set_option maxHeartbeats 1000000 in
theorem c_toChangeS (xs : List TChange) (A : Option Addr) (c : Nat) (w : World) (h : SRW shChange w A c xs) (hn : (shL shChange).sz xs ≤ 1048576) :
    Calls Tryz.prog 10 #[.slice A xs.length c] w (ToL shChange xs w) := by
  have hl : xs.length ≤ 1048576 := Nat.le_trans (Nat.le_add_right _ _) hn
  obtain ⟨i0, hi0, hz0, hz1, hz2⟩ := info_parts info_Change
  have hmk := fun W => run_make_rows (P := Tryz.prog) 35 72 i0 _ Tryz.underlying35 hi0 hz0 xs.length (by rw [hz2]; omega) (by omega) W
  rw [hz1] at hmk
  clear hi0 hz0 hz1 hz2
  obtain ⟨C0, hC0⟩ : ∃ C0, C0 = madeCells (Value.cells (.agg #[.int .i64 0, .string ⟨#[]⟩, .slice none 0 0, .string ⟨#[]⟩])) (xs.length * 4) := ⟨_, rfl⟩
  rw [← hC0] at hmk
  have HB : Bld shChange w.heap.size (w.alloc (.cells C0 72)) w.heap.size 72 C0 xs.length xs 0 :=
    Bld.start (Nat.le_refl _) (Bk.new _ _ _) (by rw [hC0, size_madeCells]; rfl)
  clear hC0
  go_enter Tryz.func10, Tryz.ntmps10
  go_wp2
  go_loopw [4] (fun i wr => ∃ (k : Nat) (C : Array Value), k ≤ xs.length ∧ i = .int .i64 k ∧ Bld shChange w.heap.size wr w.heap.size 72 C xs.length xs k ∧ Up w wr) (fun i _ => xs.length - (intOf i).toNat)
  case atStart => exact ⟨0, C0, Nat.zero_le _, rfl, HB, (Up.refl _).alloc _⟩
  case round =>
    obtain ⟨k, C, hk, rfl, hB, hu⟩ := hrel
    by_cases hlt : k < xs.length
    · obtain ⟨g, off, A2, c2, rfl, _, _, hc0, hc1, hc2, hc3, b0, b1, b2, b3, _⟩ := atChange (h.up good_Change hu) hlt
      have hx := sz_le shChange xs hlt hn
      go_wp2_with fail
      refine (c_toChange _ xs[k] _ ⟨_, rfl, mkChange (x := xs[k]) b0 b1 b2 b3⟩ hx).mono ?_
      rintro e w1 ⟨cs, bl, rfl, ho, hnd, u1⟩
      obtain ⟨D2, d2, _, rfl, rfl, _, _, _, _⟩ := openOChange ho
      have hbk := hB.1.up u1
      have hC : C.size = xs.length * 4 := hB.2.1
      obtain ⟨o0, hm0⟩ : ∃ o, w1.cell? ⟨w.heap.size, k * 4, none⟩ = some o := by rw [hbk.cell]; exact ⟨_, Array.getElem?_eq_getElem (by omega)⟩
      have hf0 := hbk.frozen (k * 4)
      obtain ⟨o1, hm1⟩ : ∃ o, w1.cell? ⟨w.heap.size, k * 4 + 1, none⟩ = some o := by rw [hbk.cell]; exact ⟨_, Array.getElem?_eq_getElem (by omega)⟩
      have hf1 := hbk.frozen (k * 4 + 1)
      obtain ⟨o2, hm2⟩ : ∃ o, w1.cell? ⟨w.heap.size, k * 4 + 2, none⟩ = some o := by rw [hbk.cell]; exact ⟨_, Array.getElem?_eq_getElem (by omega)⟩
      have hf2 := hbk.frozen (k * 4 + 2)
      obtain ⟨o3, hm3⟩ : ∃ o, w1.cell? ⟨w.heap.size, k * 4 + 3, none⟩ = some o := by rw [hbk.cell]; exact ⟨_, Array.getElem?_eq_getElem (by omega)⟩
      have hf3 := hbk.frozen (k * 4 + 3)
      go_wp2_with fail
      go_roundw
      case rel => exact ⟨k + 1, _, by omega, by go_num, hB.push good_Change u1 ho hnd (List.getElem?_eq_getElem hlt) hlt (But.sets [_, _, _, _] _ _) (Bk.sets [_, _, _, _] hbk _), (hu.trans u1).sets (Nat.le_refl _) _ [_, _, _, _]⟩
      case measure => simp [intOf]; omega
    · obtain ⟨bl, hso, hnd⟩ := hB.done (c := xs.length) (by omega) (Nat.le_refl _) (by unfold maxLen; omega) (Nat.le_refl _)
      go_wp2
      go_ret
      exact ⟨_, _, bl, rfl, hso, hnd, hu⟩

end Go.Proofs.YtehhgogmbpdpbaaGreatDoor
