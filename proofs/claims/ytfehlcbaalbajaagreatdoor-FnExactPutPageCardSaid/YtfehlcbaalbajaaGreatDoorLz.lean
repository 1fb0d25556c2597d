/-
  Contracts of the laws' sz helpers, by genlaw.py
-/
import Derived.Test.YtfehlcbaalbajaaGreatDoorRows
import Derived.Test.YtfehlcbaalbajaaGreatDoorTy
import Derived.Test.YtfehlcbaalbajaaGreatDoorRep2
import Derived.StillTailTactics
import Derived.Test.YtfehlcbaalbajaaGreatDoorLh
namespace Go.Proofs.YtfehlcbaalbajaaGreatDoor
open Go.RowKit
set_option linter.unusedSimpArgs false
set_option linter.unusedVariables false

set_option maxHeartbeats 1000000 in
theorem c_szInt64S (xs : List Int) (A : Option Addr) (c : Nat) (left : Int) (w : World) (h : SRW shI w A c xs) (h0 : 0 ≤ left) (h1 : left ≤ 1048576) :
    Calls Tryz.prog 92 #[.slice A xs.length c, .int .i64 left] w (SzP left ((shL shI).sz xs) w) := by
  have hlen := h.len_le
  have HS : Hid ((shL shI).sz xs = xs.length) := by
    have : ∀ ys : List Int, (ys.map shI.sz).sum = 0 := fun ys => by induction ys with
      | nil => rfl
      | cons y ys ih => simp only [List.map_cons, List.sum_cons, ih]; rfl
    show xs.length + (xs.map shI.sz).sum = _
    rw [this]; rfl
  go_enter Tryz.func92, Tryz.ntmps92
  go_wp2
  · go_ret
    exact SzP.no (by rw [HS.out]; omega) (Up.refl _)
  · go_ret
    exact SzP.yes (by rw [HS.out]; omega) (by rw [HS.out]) (Up.refl _)







set_option maxHeartbeats 1000000 in
theorem c_szPage (v : Value) (x : TPage) (left : Int) (w : World) (h : AV shPage w v x) (h0 : 0 ≤ left) (h1 : left ≤ 1048576) :
    Calls Tryz.prog 37 #[v, .int .i64 left] w (SzP left (shPage.sz x) w) := by
  obtain ⟨cs, rfl, h⟩ := h
  obtain ⟨x0, x1, x2, x3⟩ := x
  have ho := openPage h
  try dsimp only at ho
  obtain ⟨A1, c1, A2, c2, A3, c3, rfl, b1, b2, b3⟩ := ho
  have HS := Lib.hid (show shPage.sz (x0, x1, x2, x3) = 0 + ((shL shS).sz x1 + ((shL shS).sz x2 + ((shL shI).sz x3))) from rfl)
  have kk0 : Bk (w.alloc (.cells #[.bool x0, .slice A1 x1.length c1, .slice A2 x2.length c2, .slice A3 x3.length c3] 79)) w.heap.size 79 #[.bool x0, .slice A1 x1.length c1, .slice A2 x2.length c2, .slice A3 x3.length c3] := Bk.new _ _ _
  have uu0 : Up w (w.alloc (.cells #[.bool x0, .slice A1 x1.length c1, .slice A2 x2.length c2, .slice A3 x3.length c3] 79)) := (Up.refl _).alloc _
  go_enter Tryz.func37, Tryz.ntmps37
  go_wp2_with fail
  refine (c_szStringS _ _ _ _ _ (b1.up good_S uu0) (by omega) (by omega)).mono ?_
  rintro e w1 ⟨rfl, u1⟩
  have uu1 := uu0.trans u1
  have kk1 := kk0.up u1
  have g1_1 : w1.cell? ⟨w.heap.size, 1, none⟩ = some (.slice A1 x1.length c1) := kk1.cell 1
  have g1_2 : w1.cell? ⟨w.heap.size, 2, none⟩ = some (.slice A2 x2.length c2) := kk1.cell 2
  have g1_3 : w1.cell? ⟨w.heap.size, 3, none⟩ = some (.slice A3 x3.length c3) := kk1.cell 3
  by_cases q0 : ¬ (((shL shS).sz x1 : Nat) : Int) ≤ left
  · rw [szR_no (by omega)]
    go_wp2_with fail
    go_ret
    exact SzP.no (by rw [HS.out]; omega) uu1
  replace q0 := Decidable.of_not_not q0
  rw [szR_yes q0]
  go_wp2_with fail
  refine (c_szStringS _ _ _ _ _ (b2.up good_S uu1) (by omega) (by omega)).mono ?_
  rintro e w2 ⟨rfl, u2⟩
  have uu2 := uu1.trans u2
  have kk2 := kk1.up u2
  have g2_2 : w2.cell? ⟨w.heap.size, 2, none⟩ = some (.slice A2 x2.length c2) := kk2.cell 2
  have g2_3 : w2.cell? ⟨w.heap.size, 3, none⟩ = some (.slice A3 x3.length c3) := kk2.cell 3
  by_cases q1 : ¬ (((shL shS).sz x2 : Nat) : Int) ≤ left - ((shL shS).sz x1 : Nat)
  · rw [szR_no (by omega)]
    go_wp2_with fail
    go_ret
    exact SzP.no (by rw [HS.out]; omega) uu2
  replace q1 := Decidable.of_not_not q1
  rw [szR_yes q1]
  go_wp2_with fail
  refine (c_szInt64S _ _ _ _ _ (b3.up good_I uu2) (by omega) (by omega)).mono ?_
  rintro e w3 ⟨rfl, u3⟩
  have uu3 := uu2.trans u3
  have kk3 := kk2.up u3
  have g3_3 : w3.cell? ⟨w.heap.size, 3, none⟩ = some (.slice A3 x3.length c3) := kk3.cell 3
  by_cases q2 : ¬ (((shL shI).sz x3 : Nat) : Int) ≤ left - ((shL shS).sz x1 : Nat) - ((shL shS).sz x2 : Nat)
  · rw [szR_no (by omega)]
    go_wp2_with fail
    go_ret
    exact SzP.no (by rw [HS.out]; omega) uu3
  replace q2 := Decidable.of_not_not q2
  rw [szR_yes q2]
  go_wp2_with fail
  go_ret
  exact SzP.yes (by rw [HS.out]; omega) (by rw [HS.out] <;> omega) uu3

set_option maxHeartbeats 1000000 in
theorem c_szSlot (v : Value) (x : TSlot) (left : Int) (w : World) (h : AV shSlot w v x) (h0 : 0 ≤ left) (h1 : left ≤ 1048576) :
    Calls Tryz.prog 134 #[v, .int .i64 left] w (SzP left (shSlot.sz x) w) := by
  obtain ⟨cs, rfl, h⟩ := h
  obtain ⟨x0, ⟨x1, x2, x3, x4⟩⟩ := x
  have ho := openSlot h
  try dsimp only at ho
  obtain ⟨A2, c2, A3, c3, A4, c4, rfl, b0, b2, b3, b4⟩ := ho
  have HS := Lib.hid (show shSlot.sz (x0, (x1, x2, x3, x4)) = 0 + (shPage.sz (x1, x2, x3, x4)) from rfl)
  have kk0 : Bk (w.alloc (.cells #[.int .i64 x0, .bool x1, .slice A2 x2.length c2, .slice A3 x3.length c3, .slice A4 x4.length c4] 182)) w.heap.size 182 #[.int .i64 x0, .bool x1, .slice A2 x2.length c2, .slice A3 x3.length c3, .slice A4 x4.length c4] := Bk.new _ _ _
  have uu0 : Up w (w.alloc (.cells #[.int .i64 x0, .bool x1, .slice A2 x2.length c2, .slice A3 x3.length c3, .slice A4 x4.length c4] 182)) := (Up.refl _).alloc _
  go_enter Tryz.func134, Tryz.ntmps134
  go_wp2_with fail
  refine (c_szPage _ (x1, x2, x3, x4) _ _ ⟨_, rfl, mkPage (x := (x1, x2, x3, x4)) (b2.up good_S uu0) (b3.up good_S uu0) (b4.up good_I uu0)⟩ (by omega) (by omega)).mono ?_
  rintro e w1 ⟨rfl, u1⟩
  have uu1 := uu0.trans u1
  have kk1 := kk0.up u1
  have g1_1 : w1.cell? ⟨w.heap.size, 1, none⟩ = some (.bool x1) := kk1.cell 1
  have g1_2 : w1.cell? ⟨w.heap.size, 2, none⟩ = some (.slice A2 x2.length c2) := kk1.cell 2
  have g1_3 : w1.cell? ⟨w.heap.size, 3, none⟩ = some (.slice A3 x3.length c3) := kk1.cell 3
  have g1_4 : w1.cell? ⟨w.heap.size, 4, none⟩ = some (.slice A4 x4.length c4) := kk1.cell 4
  by_cases q0 : ¬ ((shPage.sz (x1, x2, x3, x4) : Nat) : Int) ≤ left
  · rw [szR_no (by omega)]
    go_wp2_with fail
    go_ret
    exact SzP.no (by rw [HS.out]; omega) uu1
  replace q0 := Decidable.of_not_not q0
  rw [szR_yes q0]
  go_wp2_with fail
  go_ret
  exact SzP.yes (by rw [HS.out]; omega) (by rw [HS.out] <;> omega) uu1

set_option maxHeartbeats 1000000 in
theorem c_szSlotS (xs : List TSlot) (A : Option Addr) (c : Nat) (left : Int) (w : World) (h : SRW shSlot w A c xs) (h0 : 0 ≤ left) (h1 : left ≤ 1048576) :
    Calls Tryz.prog 86 #[.slice A xs.length c, .int .i64 left] w (SzP left ((shL shSlot).sz xs) w) := by
  have hlen := h.len_le
  have HS := Lib.hid (show (shL shSlot).sz xs = xs.length + (xs.map shSlot.sz).sum from rfl)
  go_enter Tryz.func86, Tryz.ntmps86
  go_wp2
  · go_ret
    exact SzP.no (by rw [HS.out]; omega) (Up.refl _)
  · go_loopw [1, 5] (fun l i wr => ∃ k : Nat, k ≤ xs.length ∧ i = .int .i64 k ∧ l = .int .i64 (left - xs.length - psum shSlot.sz xs k) ∧ (xs.length + psum shSlot.sz xs k : Int) ≤ left ∧ Up w wr) (fun _ i _ => xs.length - (intOf i).toNat)
    case atStart => exact ⟨0, Nat.zero_le _, rfl, by simp [psum_zero], by simp [psum_zero]; omega, Up.refl _⟩
    case round =>
      obtain ⟨k, hk, rfl, rfl, hp, hu⟩ := hrel
      by_cases hlt : k < xs.length
      · obtain ⟨g, off, A2, c2, A3, c3, A4, c4, rfl, _, _, hc0, hc1, hc2, hc3, hc4, b0, b2, b3, b4, _⟩ := atSlot (h.up good_Slot hu) hlt
        have HP := Lib.hid (psum_succ shSlot.sz xs k hlt)
        have hle := psum_le shSlot.sz xs (k + 1)
        rw [HP.out] at hle
        go_wp2_with fail
        refine (c_szSlot _ xs[k] _ _ ⟨_, rfl, mkSlot (x := xs[k]) b0 b2 b3 b4⟩ (by omega) (by omega)).mono ?_
        rintro e w1 ⟨rfl, hu1⟩
        by_cases hq : (shSlot.sz xs[k] : Int) ≤ left - xs.length - psum shSlot.sz xs k
        · rw [szR_yes hq]
          go_wp2_with fail
          go_roundw
          case rel => exact ⟨k + 1, by omega, by go_num, by rw [HP.out]; go_num, by rw [HP.out]; omega, hu.trans hu1⟩
          case measure => simp [intOf]; omega
        · rw [szR_no (by omega)]
          go_wp2_with fail
          go_ret
          exact SzP.no (by rw [HS.out]; omega) (hu.trans hu1)
      · have HK := Lib.hid (show k = xs.length by omega)
        go_wp2_with fail
        go_ret
        exact SzP.yes (by rw [HS.out, ← psum_all, ← HK.out]; omega) (by rw [HS.out, ← psum_all, ← HK.out]; omega) hu

set_option maxHeartbeats 1000000 in
theorem c_szBtree (v : Value) (x : TBtree) (left : Int) (w : World) (h : AV shBtree w v x) (h0 : 0 ≤ left) (h1 : left ≤ 1048576) :
    Calls Tryz.prog 32 #[v, .int .i64 left] w (SzP left (shBtree.sz x) w) := by
  obtain ⟨cs, rfl, h⟩ := h
  obtain ⟨x0, x1⟩ := x
  have ho := openBtree h
  try dsimp only at ho
  obtain ⟨A1, c1, rfl, b0, b1⟩ := ho
  have HS := Lib.hid (show shBtree.sz (x0, x1) = 0 + ((shL shSlot).sz x1) from rfl)
  have kk0 : Bk (w.alloc (.cells #[.int .i64 x0, .slice A1 x1.length c1] 72)) w.heap.size 72 #[.int .i64 x0, .slice A1 x1.length c1] := Bk.new _ _ _
  have uu0 : Up w (w.alloc (.cells #[.int .i64 x0, .slice A1 x1.length c1] 72)) := (Up.refl _).alloc _
  go_enter Tryz.func32, Tryz.ntmps32
  go_wp2_with fail
  refine (c_szSlotS _ _ _ _ _ (b1.up good_Slot uu0) (by omega) (by omega)).mono ?_
  rintro e w1 ⟨rfl, u1⟩
  have uu1 := uu0.trans u1
  have kk1 := kk0.up u1
  have g1_1 : w1.cell? ⟨w.heap.size, 1, none⟩ = some (.slice A1 x1.length c1) := kk1.cell 1
  by_cases q0 : ¬ (((shL shSlot).sz x1 : Nat) : Int) ≤ left
  · rw [szR_no (by omega)]
    go_wp2_with fail
    go_ret
    exact SzP.no (by rw [HS.out]; omega) uu1
  replace q0 := Decidable.of_not_not q0
  rw [szR_yes q0]
  go_wp2_with fail
  go_ret
  exact SzP.yes (by rw [HS.out]; omega) (by rw [HS.out] <;> omega) uu1


set_option maxHeartbeats 1000000 in
theorem c_szNode (v : Value) (x : TNode) (left : Int) (w : World) (h : AV shNode w v x) (h0 : 0 ≤ left) (h1 : left ≤ 1048576) :
    Calls Tryz.prog 103 #[v, .int .i64 left] w (SzP left (shNode.sz x) w) := by
  obtain ⟨cs, rfl, h⟩ := h
  obtain ⟨x0, x1, x2⟩ := x
  have ho := openNode h
  try dsimp only at ho
  obtain ⟨A1, c1, rfl, b0, b1, b2⟩ := ho
  have bm0 := b0; unfold maxLen at bm0
  have bm2 := b2; unfold maxLen at bm2
  have HS := Lib.hid (show shNode.sz (x0, x1, x2) = x0.size + ((shL shS).sz x1 + (x2.size)) from rfl)
  have kk0 : Bk (w.alloc (.cells #[.string x0, .slice A1 x1.length c1, .string x2] 150)) w.heap.size 150 #[.string x0, .slice A1 x1.length c1, .string x2] := Bk.new _ _ _
  have uu0 : Up w (w.alloc (.cells #[.string x0, .slice A1 x1.length c1, .string x2] 150)) := (Up.refl _).alloc _
  go_enter Tryz.func103, Tryz.ntmps103
  go_wp2_with fail
  · go_ret
    exact SzP.no (by rw [HS.out]; omega) uu0
  refine (c_szStringS _ _ _ _ _ (b1.up good_S uu0) (by omega) (by omega)).mono ?_
  rintro e w1 ⟨rfl, u1⟩
  have uu1 := uu0.trans u1
  have kk1 := kk0.up u1
  have g1_1 : w1.cell? ⟨w.heap.size, 1, none⟩ = some (.slice A1 x1.length c1) := kk1.cell 1
  have g1_2 : w1.cell? ⟨w.heap.size, 2, none⟩ = some (.string x2) := kk1.cell 2
  by_cases q1 : ¬ (((shL shS).sz x1 : Nat) : Int) ≤ left - (x0.size : Nat)
  · rw [szR_no (by omega)]
    go_wp2_with fail
    go_ret
    exact SzP.no (by rw [HS.out]; omega) uu1
  replace q1 := Decidable.of_not_not q1
  rw [szR_yes q1]
  go_wp2_with fail
  · go_ret
    exact SzP.no (by rw [HS.out]; omega) uu1
  go_ret
  exact SzP.yes (by rw [HS.out]; omega) (by rw [HS.out] <;> omega) uu1

set_option maxHeartbeats 1000000 in
theorem c_szNodeS (xs : List TNode) (A : Option Addr) (c : Nat) (left : Int) (w : World) (h : SRW shNode w A c xs) (h0 : 0 ≤ left) (h1 : left ≤ 1048576) :
    Calls Tryz.prog 44 #[.slice A xs.length c, .int .i64 left] w (SzP left ((shL shNode).sz xs) w) := by
  have hlen := h.len_le
  have HS := Lib.hid (show (shL shNode).sz xs = xs.length + (xs.map shNode.sz).sum from rfl)
  go_enter Tryz.func44, Tryz.ntmps44
  go_wp2
  · go_ret
    exact SzP.no (by rw [HS.out]; omega) (Up.refl _)
  · go_loopw [1, 5] (fun l i wr => ∃ k : Nat, k ≤ xs.length ∧ i = .int .i64 k ∧ l = .int .i64 (left - xs.length - psum shNode.sz xs k) ∧ (xs.length + psum shNode.sz xs k : Int) ≤ left ∧ Up w wr) (fun _ i _ => xs.length - (intOf i).toNat)
    case atStart => exact ⟨0, Nat.zero_le _, rfl, by simp [psum_zero], by simp [psum_zero]; omega, Up.refl _⟩
    case round =>
      obtain ⟨k, hk, rfl, rfl, hp, hu⟩ := hrel
      by_cases hlt : k < xs.length
      · obtain ⟨g, off, A1, c1, rfl, _, _, hc0, hc1, hc2, b0, b1, b2, _⟩ := atNode (h.up good_Node hu) hlt
        have HP := Lib.hid (psum_succ shNode.sz xs k hlt)
        have hle := psum_le shNode.sz xs (k + 1)
        rw [HP.out] at hle
        go_wp2_with fail
        refine (c_szNode _ xs[k] _ _ ⟨_, rfl, mkNode (x := xs[k]) b0 b1 b2⟩ (by omega) (by omega)).mono ?_
        rintro e w1 ⟨rfl, hu1⟩
        by_cases hq : (shNode.sz xs[k] : Int) ≤ left - xs.length - psum shNode.sz xs k
        · rw [szR_yes hq]
          go_wp2_with fail
          go_roundw
          case rel => exact ⟨k + 1, by omega, by go_num, by rw [HP.out]; go_num, by rw [HP.out]; omega, hu.trans hu1⟩
          case measure => simp [intOf]; omega
        · rw [szR_no (by omega)]
          go_wp2_with fail
          go_ret
          exact SzP.no (by rw [HS.out]; omega) (hu.trans hu1)
      · have HK := Lib.hid (show k = xs.length by omega)
        go_wp2_with fail
        go_ret
        exact SzP.yes (by rw [HS.out, ← psum_all, ← HK.out]; omega) (by rw [HS.out, ← psum_all, ← HK.out]; omega) hu

set_option maxHeartbeats 1000000 in
theorem c_szTree (v : Value) (x : TTree) (left : Int) (w : World) (h : AV shTree w v x) (h0 : 0 ≤ left) (h1 : left ≤ 1048576) :
    Calls Tryz.prog 9 #[v, .int .i64 left] w (SzP left (shTree.sz x) w) := by
  obtain ⟨cs, rfl, h⟩ := h
  obtain ⟨x0, rfl⟩ : ∃ q, q = x := ⟨_, rfl⟩
  have ho := openTree h
  try dsimp only at ho
  obtain ⟨A0, c0, rfl, b0⟩ := ho
  have HS := Lib.hid (show shTree.sz x0 = (shL shNode).sz x0 from rfl)
  have kk0 : Bk (w.alloc (.cells #[.slice A0 x0.length c0] 24)) w.heap.size 24 #[.slice A0 x0.length c0] := Bk.new _ _ _
  have uu0 : Up w (w.alloc (.cells #[.slice A0 x0.length c0] 24)) := (Up.refl _).alloc _
  go_enter Tryz.func9, Tryz.ntmps9
  go_wp2_with fail
  refine (c_szNodeS _ _ _ _ _ (b0.up good_Node uu0) (by omega) (by omega)).mono ?_
  rintro e w1 ⟨rfl, u1⟩
  have uu1 := uu0.trans u1
  have kk1 := kk0.up u1
  have g1_0 : w1.cell? ⟨w.heap.size, 0, none⟩ = some (.slice A0 x0.length c0) := kk1.cell 0
  by_cases q0 : ¬ (((shL shNode).sz x0 : Nat) : Int) ≤ left
  · rw [szR_no (by omega)]
    go_wp2_with fail
    go_ret
    exact SzP.no (by rw [HS.out]; omega) uu1
  replace q0 := Decidable.of_not_not q0
  rw [szR_yes q0]
  go_wp2_with fail
  go_ret
  exact SzP.yes (by rw [HS.out]; omega) (by rw [HS.out] <;> omega) uu1

set_option maxHeartbeats 1000000 in
theorem c_szChange (v : Value) (x : TChange) (left : Int) (w : World) (h : AV shChange w v x) (h0 : 0 ≤ left) (h1 : left ≤ 1048576) :
    Calls Tryz.prog 45 #[v, .int .i64 left] w (SzP left (shChange.sz x) w) := by
  obtain ⟨cs, rfl, h⟩ := h
  obtain ⟨x0, x1, x2, x3⟩ := x
  have ho := openChange h
  try dsimp only at ho
  obtain ⟨A2, c2, rfl, b0, b1, b2, b3⟩ := ho
  have bm1 := b1; unfold maxLen at bm1
  have bm3 := b3; unfold maxLen at bm3
  have HS := Lib.hid (show shChange.sz (x0, x1, x2, x3) = 0 + (x1.size + ((shL shS).sz x2 + (x3.size))) from rfl)
  have kk0 : Bk (w.alloc (.cells #[.int .i64 x0, .string x1, .slice A2 x2.length c2, .string x3] 89)) w.heap.size 89 #[.int .i64 x0, .string x1, .slice A2 x2.length c2, .string x3] := Bk.new _ _ _
  have uu0 : Up w (w.alloc (.cells #[.int .i64 x0, .string x1, .slice A2 x2.length c2, .string x3] 89)) := (Up.refl _).alloc _
  go_enter Tryz.func45, Tryz.ntmps45
  go_wp2_with fail
  · go_ret
    exact SzP.no (by rw [HS.out]; omega) uu0
  refine (c_szStringS _ _ _ _ _ (b2.up good_S uu0) (by omega) (by omega)).mono ?_
  rintro e w1 ⟨rfl, u1⟩
  have uu1 := uu0.trans u1
  have kk1 := kk0.up u1
  have g1_2 : w1.cell? ⟨w.heap.size, 2, none⟩ = some (.slice A2 x2.length c2) := kk1.cell 2
  have g1_3 : w1.cell? ⟨w.heap.size, 3, none⟩ = some (.string x3) := kk1.cell 3
  by_cases q1 : ¬ (((shL shS).sz x2 : Nat) : Int) ≤ left - (x1.size : Nat)
  · rw [szR_no (by omega)]
    go_wp2_with fail
    go_ret
    exact SzP.no (by rw [HS.out]; omega) uu1
  replace q1 := Decidable.of_not_not q1
  rw [szR_yes q1]
  go_wp2_with fail
  · go_ret
    exact SzP.no (by rw [HS.out]; omega) uu1
  go_ret
  exact SzP.yes (by rw [HS.out]; omega) (by rw [HS.out] <;> omega) uu1

set_option maxHeartbeats 1000000 in
theorem c_szChangeS (xs : List TChange) (A : Option Addr) (c : Nat) (left : Int) (w : World) (h : SRW shChange w A c xs) (h0 : 0 ≤ left) (h1 : left ≤ 1048576) :
    Calls Tryz.prog 10 #[.slice A xs.length c, .int .i64 left] w (SzP left ((shL shChange).sz xs) w) := by
  have hlen := h.len_le
  have HS := Lib.hid (show (shL shChange).sz xs = xs.length + (xs.map shChange.sz).sum from rfl)
  go_enter Tryz.func10, Tryz.ntmps10
  go_wp2
  · go_ret
    exact SzP.no (by rw [HS.out]; omega) (Up.refl _)
  · go_loopw [1, 5] (fun l i wr => ∃ k : Nat, k ≤ xs.length ∧ i = .int .i64 k ∧ l = .int .i64 (left - xs.length - psum shChange.sz xs k) ∧ (xs.length + psum shChange.sz xs k : Int) ≤ left ∧ Up w wr) (fun _ i _ => xs.length - (intOf i).toNat)
    case atStart => exact ⟨0, Nat.zero_le _, rfl, by simp [psum_zero], by simp [psum_zero]; omega, Up.refl _⟩
    case round =>
      obtain ⟨k, hk, rfl, rfl, hp, hu⟩ := hrel
      by_cases hlt : k < xs.length
      · obtain ⟨g, off, A2, c2, rfl, _, _, hc0, hc1, hc2, hc3, b0, b1, b2, b3, _⟩ := atChange (h.up good_Change hu) hlt
        have HP := Lib.hid (psum_succ shChange.sz xs k hlt)
        have hle := psum_le shChange.sz xs (k + 1)
        rw [HP.out] at hle
        go_wp2_with fail
        refine (c_szChange _ xs[k] _ _ ⟨_, rfl, mkChange (x := xs[k]) b0 b1 b2 b3⟩ (by omega) (by omega)).mono ?_
        rintro e w1 ⟨rfl, hu1⟩
        by_cases hq : (shChange.sz xs[k] : Int) ≤ left - xs.length - psum shChange.sz xs k
        · rw [szR_yes hq]
          go_wp2_with fail
          go_roundw
          case rel => exact ⟨k + 1, by omega, by go_num, by rw [HP.out]; go_num, by rw [HP.out]; omega, hu.trans hu1⟩
          case measure => simp [intOf]; omega
        · rw [szR_no (by omega)]
          go_wp2_with fail
          go_ret
          exact SzP.no (by rw [HS.out]; omega) (hu.trans hu1)
      · have HK := Lib.hid (show k = xs.length by omega)
        go_wp2_with fail
        go_ret
        exact SzP.yes (by rw [HS.out, ← psum_all, ← HK.out]; omega) (by rw [HS.out, ← psum_all, ← HK.out]; omega) hu








end Go.Proofs.YtfehlcbaalbajaaGreatDoor
