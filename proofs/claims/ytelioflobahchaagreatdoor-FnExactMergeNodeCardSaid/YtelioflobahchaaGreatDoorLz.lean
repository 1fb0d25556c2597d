/-
  Contracts of the laws' sz helpers, by genlaw.py
-/
import Derived.Test.YtelioflobahchaaGreatDoorRows
import Derived.Test.YtelioflobahchaaGreatDoorTy
import Derived.Test.YtelioflobahchaaGreatDoorRep2
import Derived.StillTailTactics
import Derived.Test.YtelioflobahchaaGreatDoorLh
namespace Go.Proofs.YtelioflobahchaaGreatDoor
open Go.RowKit
set_option linter.unusedSimpArgs false
set_option linter.unusedVariables false













set_option maxHeartbeats 1000000 in
theorem c_szNode (v : Value) (x : TNode) (left : Int) (w : World) (h : AV shNode w v x) (h0 : 0 ≤ left) (h1 : left ≤ 1048576) :
    Calls Tryz.prog 68 #[v, .int .i64 left] w (SzP left (shNode.sz x) w) := by
  obtain ⟨cs, rfl, h⟩ := h
  obtain ⟨x0, x1, x2⟩ := x
  have ho := openNode h
  try dsimp only at ho
  obtain ⟨A1, c1, rfl, b0, b1, b2⟩ := ho
  have bm0 := b0; unfold maxLen at bm0
  have bm2 := b2; unfold maxLen at bm2
  have HS := Lib.hid (show shNode.sz (x0, x1, x2) = x0.size + ((shL shS).sz x1 + (x2.size)) from rfl)
  have kk0 : Bk (w.alloc (.cells #[.string x0, .slice A1 x1.length c1, .string x2] 92)) w.heap.size 92 #[.string x0, .slice A1 x1.length c1, .string x2] := Bk.new _ _ _
  have uu0 : Up w (w.alloc (.cells #[.string x0, .slice A1 x1.length c1, .string x2] 92)) := (Up.refl _).alloc _
  go_enter Tryz.func68, Tryz.ntmps68
  go_wp2_with fail
  · go_ret
    exact SzP.no (by rw [HS.out]; omega) uu0
  refine (c_szStringS _ _ _ _ _ (b1.up good_S uu0) (by omega) (by omega)).mono ?_
  rintro e w1 ⟨rfl, u1⟩
  have uu1 := uu0.trans u1
  have kk1 := kk0.up u1
  have g1_1 : w1.cell? ⟨w.heap.size, 1, none⟩ = some (.slice A1 x1.length c1) := kk1.cell 1
  have g1_2 : w1.cell? ⟨w.heap.size, 2, none⟩ = some (.string x2) := kk1.cell 2
  by_cases q1 : ¬ (((shL shS).sz x1 : Nat) : Int) ≤ left - (x0.size : Nat)
  · rw [szR_no (by omega)]
    go_wp2_with fail
    go_ret
    exact SzP.no (by rw [HS.out]; omega) uu1
  replace q1 := Decidable.of_not_not q1
  rw [szR_yes q1]
  go_wp2_with fail
  · go_ret
    exact SzP.no (by rw [HS.out]; omega) uu1
  go_ret
  exact SzP.yes (by rw [HS.out]; omega) (by rw [HS.out] <;> omega) uu1

set_option maxHeartbeats 1000000 in
theorem c_szNodeS (xs : List TNode) (A : Option Addr) (c : Nat) (left : Int) (w : World) (h : SRW shNode w A c xs) (h0 : 0 ≤ left) (h1 : left ≤ 1048576) :
    Calls Tryz.prog 33 #[.slice A xs.length c, .int .i64 left] w (SzP left ((shL shNode).sz xs) w) := by
  have hlen := h.len_le
  have HS := Lib.hid (show (shL shNode).sz xs = xs.length + (xs.map shNode.sz).sum from rfl)
  go_enter Tryz.func33, Tryz.ntmps33
  go_wp2
  · go_ret
    exact SzP.no (by rw [HS.out]; omega) (Up.refl _)
  · go_loopw [1, 5] (fun l i wr => ∃ k : Nat, k ≤ xs.length ∧ i = .int .i64 k ∧ l = .int .i64 (left - xs.length - psum shNode.sz xs k) ∧ (xs.length + psum shNode.sz xs k : Int) ≤ left ∧ Up w wr) (fun _ i _ => xs.length - (intOf i).toNat)
    case atStart => exact ⟨0, Nat.zero_le _, rfl, by simp [psum_zero], by simp [psum_zero]; omega, Up.refl _⟩
    case round =>
      obtain ⟨k, hk, rfl, rfl, hp, hu⟩ := hrel
      by_cases hlt : k < xs.length
      · obtain ⟨g, off, A1, c1, rfl, _, _, hc0, hc1, hc2, b0, b1, b2, _⟩ := atNode (h.up good_Node hu) hlt
        have HP := Lib.hid (psum_succ shNode.sz xs k hlt)
        have hle := psum_le shNode.sz xs (k + 1)
        rw [HP.out] at hle
        go_wp2_with fail
        refine (c_szNode _ xs[k] _ _ ⟨_, rfl, mkNode (x := xs[k]) b0 b1 b2⟩ (by omega) (by omega)).mono ?_
        rintro e w1 ⟨rfl, hu1⟩
        by_cases hq : (shNode.sz xs[k] : Int) ≤ left - xs.length - psum shNode.sz xs k
        · rw [szR_yes hq]
          go_wp2_with fail
          go_roundw
          case rel => exact ⟨k + 1, by omega, by go_num, by rw [HP.out]; go_num, by rw [HP.out]; omega, hu.trans hu1⟩
          case measure => simp [intOf]; omega
        · rw [szR_no (by omega)]
          go_wp2_with fail
          go_ret
          exact SzP.no (by rw [HS.out]; omega) (hu.trans hu1)
      · have HK := Lib.hid (show k = xs.length by omega)
        go_wp2_with fail
        go_ret
        exact SzP.yes (by rw [HS.out, ← psum_all, ← HK.out]; omega) (by rw [HS.out, ← psum_all, ← HK.out]; omega) hu

set_option maxHeartbeats 1000000 in
theorem c_szTree (v : Value) (x : TTree) (left : Int) (w : World) (h : AV shTree w v x) (h0 : 0 ≤ left) (h1 : left ≤ 1048576) :
    Calls Tryz.prog 7 #[v, .int .i64 left] w (SzP left (shTree.sz x) w) := by
  obtain ⟨cs, rfl, h⟩ := h
  obtain ⟨x0, rfl⟩ : ∃ q, q = x := ⟨_, rfl⟩
  have ho := openTree h
  try dsimp only at ho
  obtain ⟨A0, c0, rfl, b0⟩ := ho
  have HS := Lib.hid (show shTree.sz x0 = (shL shNode).sz x0 from rfl)
  have kk0 : Bk (w.alloc (.cells #[.slice A0 x0.length c0] 24)) w.heap.size 24 #[.slice A0 x0.length c0] := Bk.new _ _ _
  have uu0 : Up w (w.alloc (.cells #[.slice A0 x0.length c0] 24)) := (Up.refl _).alloc _
  go_enter Tryz.func7, Tryz.ntmps7
  go_wp2_with fail
  refine (c_szNodeS _ _ _ _ _ (b0.up good_Node uu0) (by omega) (by omega)).mono ?_
  rintro e w1 ⟨rfl, u1⟩
  have uu1 := uu0.trans u1
  have kk1 := kk0.up u1
  have g1_0 : w1.cell? ⟨w.heap.size, 0, none⟩ = some (.slice A0 x0.length c0) := kk1.cell 0
  by_cases q0 : ¬ (((shL shNode).sz x0 : Nat) : Int) ≤ left
  · rw [szR_no (by omega)]
    go_wp2_with fail
    go_ret
    exact SzP.no (by rw [HS.out]; omega) uu1
  replace q0 := Decidable.of_not_not q0
  rw [szR_yes q0]
  go_wp2_with fail
  go_ret
  exact SzP.yes (by rw [HS.out]; omega) (by rw [HS.out] <;> omega) uu1

set_option maxHeartbeats 1000000 in
theorem c_szChange (v : Value) (x : TChange) (left : Int) (w : World) (h : AV shChange w v x) (h0 : 0 ≤ left) (h1 : left ≤ 1048576) :
    Calls Tryz.prog 60 #[v, .int .i64 left] w (SzP left (shChange.sz x) w) := by
  obtain ⟨cs, rfl, h⟩ := h
  obtain ⟨x0, x1, x2, x3⟩ := x
  have ho := openChange h
  try dsimp only at ho
  obtain ⟨A2, c2, rfl, b0, b1, b2, b3⟩ := ho
  have bm1 := b1; unfold maxLen at bm1
  have bm3 := b3; unfold maxLen at bm3
  have HS := Lib.hid (show shChange.sz (x0, x1, x2, x3) = 0 + (x1.size + ((shL shS).sz x2 + (x3.size))) from rfl)
  have kk0 : Bk (w.alloc (.cells #[.int .i64 x0, .string x1, .slice A2 x2.length c2, .string x3] 85)) w.heap.size 85 #[.int .i64 x0, .string x1, .slice A2 x2.length c2, .string x3] := Bk.new _ _ _
  have uu0 : Up w (w.alloc (.cells #[.int .i64 x0, .string x1, .slice A2 x2.length c2, .string x3] 85)) := (Up.refl _).alloc _
  go_enter Tryz.func60, Tryz.ntmps60
  go_wp2_with fail
  · go_ret
    exact SzP.no (by rw [HS.out]; omega) uu0
  refine (c_szStringS _ _ _ _ _ (b2.up good_S uu0) (by omega) (by omega)).mono ?_
  rintro e w1 ⟨rfl, u1⟩
  have uu1 := uu0.trans u1
  have kk1 := kk0.up u1
  have g1_2 : w1.cell? ⟨w.heap.size, 2, none⟩ = some (.slice A2 x2.length c2) := kk1.cell 2
  have g1_3 : w1.cell? ⟨w.heap.size, 3, none⟩ = some (.string x3) := kk1.cell 3
  by_cases q1 : ¬ (((shL shS).sz x2 : Nat) : Int) ≤ left - (x1.size : Nat)
  · rw [szR_no (by omega)]
    go_wp2_with fail
    go_ret
    exact SzP.no (by rw [HS.out]; omega) uu1
  replace q1 := Decidable.of_not_not q1
  rw [szR_yes q1]
  go_wp2_with fail
  · go_ret
    exact SzP.no (by rw [HS.out]; omega) uu1
  go_ret
  exact SzP.yes (by rw [HS.out]; omega) (by rw [HS.out] <;> omega) uu1

set_option maxHeartbeats 1000000 in
theorem c_szChangeS (xs : List TChange) (A : Option Addr) (c : Nat) (left : Int) (w : World) (h : SRW shChange w A c xs) (h0 : 0 ≤ left) (h1 : left ≤ 1048576) :
    Calls Tryz.prog 26 #[.slice A xs.length c, .int .i64 left] w (SzP left ((shL shChange).sz xs) w) := by
  have hlen := h.len_le
  have HS := Lib.hid (show (shL shChange).sz xs = xs.length + (xs.map shChange.sz).sum from rfl)
  go_enter Tryz.func26, Tryz.ntmps26
  go_wp2
  · go_ret
    exact SzP.no (by rw [HS.out]; omega) (Up.refl _)
  · go_loopw [1, 5] (fun l i wr => ∃ k : Nat, k ≤ xs.length ∧ i = .int .i64 k ∧ l = .int .i64 (left - xs.length - psum shChange.sz xs k) ∧ (xs.length + psum shChange.sz xs k : Int) ≤ left ∧ Up w wr) (fun _ i _ => xs.length - (intOf i).toNat)
    case atStart => exact ⟨0, Nat.zero_le _, rfl, by simp [psum_zero], by simp [psum_zero]; omega, Up.refl _⟩
    case round =>
      obtain ⟨k, hk, rfl, rfl, hp, hu⟩ := hrel
      by_cases hlt : k < xs.length
      · obtain ⟨g, off, A2, c2, rfl, _, _, hc0, hc1, hc2, hc3, b0, b1, b2, b3, _⟩ := atChange (h.up good_Change hu) hlt
        have HP := Lib.hid (psum_succ shChange.sz xs k hlt)
        have hle := psum_le shChange.sz xs (k + 1)
        rw [HP.out] at hle
        go_wp2_with fail
        refine (c_szChange _ xs[k] _ _ ⟨_, rfl, mkChange (x := xs[k]) b0 b1 b2 b3⟩ (by omega) (by omega)).mono ?_
        rintro e w1 ⟨rfl, hu1⟩
        by_cases hq : (shChange.sz xs[k] : Int) ≤ left - xs.length - psum shChange.sz xs k
        · rw [szR_yes hq]
          go_wp2_with fail
          go_roundw
          case rel => exact ⟨k + 1, by omega, by go_num, by rw [HP.out]; go_num, by rw [HP.out]; omega, hu.trans hu1⟩
          case measure => simp [intOf]; omega
        · rw [szR_no (by omega)]
          go_wp2_with fail
          go_ret
          exact SzP.no (by rw [HS.out]; omega) (hu.trans hu1)
      · have HK := Lib.hid (show k = xs.length by omega)
        go_wp2_with fail
        go_ret
        exact SzP.yes (by rw [HS.out, ← psum_all, ← HK.out]; omega) (by rw [HS.out, ← psum_all, ← HK.out]; omega) hu

set_option maxHeartbeats 1000000 in
theorem c_szImage (v : Value) (x : TImage) (left : Int) (w : World) (h : AV shImage w v x) (h0 : 0 ≤ left) (h1 : left ≤ 1048576) :
    Calls Tryz.prog 34 #[v, .int .i64 left] w (SzP left (shImage.sz x) w) := by
  obtain ⟨cs, rfl, h⟩ := h
  obtain ⟨x0, x1, x2, x3, x4, x5⟩ := x
  have ho := openImage h
  try dsimp only at ho
  obtain ⟨A1, c1, rfl, b0, b1, b3, b5⟩ := ho
  have bm0 := b0; unfold maxLen at bm0
  have bm3 := b3; unfold maxLen at bm3
  have bm5 := b5; unfold maxLen at bm5
  have HS := Lib.hid (show shImage.sz (x0, x1, x2, x3, x4, x5) = x0.size + ((shL shS).sz x1 + (0 + (x3.size + (0 + (x5.size))))) from rfl)
  have kk0 : Bk (w.alloc (.cells #[.string x0, .slice A1 x1.length c1, .bool x2, .string x3, .bool x4, .string x5] 59)) w.heap.size 59 #[.string x0, .slice A1 x1.length c1, .bool x2, .string x3, .bool x4, .string x5] := Bk.new _ _ _
  have uu0 : Up w (w.alloc (.cells #[.string x0, .slice A1 x1.length c1, .bool x2, .string x3, .bool x4, .string x5] 59)) := (Up.refl _).alloc _
  go_enter Tryz.func34, Tryz.ntmps34
  go_wp2_with fail
  · go_ret
    exact SzP.no (by rw [HS.out]; omega) uu0
  refine (c_szStringS _ _ _ _ _ (b1.up good_S uu0) (by omega) (by omega)).mono ?_
  rintro e w1 ⟨rfl, u1⟩
  have uu1 := uu0.trans u1
  have kk1 := kk0.up u1
  have g1_1 : w1.cell? ⟨w.heap.size, 1, none⟩ = some (.slice A1 x1.length c1) := kk1.cell 1
  have g1_2 : w1.cell? ⟨w.heap.size, 2, none⟩ = some (.bool x2) := kk1.cell 2
  have g1_3 : w1.cell? ⟨w.heap.size, 3, none⟩ = some (.string x3) := kk1.cell 3
  have g1_4 : w1.cell? ⟨w.heap.size, 4, none⟩ = some (.bool x4) := kk1.cell 4
  have g1_5 : w1.cell? ⟨w.heap.size, 5, none⟩ = some (.string x5) := kk1.cell 5
  by_cases q1 : ¬ (((shL shS).sz x1 : Nat) : Int) ≤ left - (x0.size : Nat)
  · rw [szR_no (by omega)]
    go_wp2_with fail
    go_ret
    exact SzP.no (by rw [HS.out]; omega) uu1
  replace q1 := Decidable.of_not_not q1
  rw [szR_yes q1]
  go_wp2_with fail
  · go_ret
    exact SzP.no (by rw [HS.out]; omega) uu1
  · go_ret
    exact SzP.no (by rw [HS.out]; omega) uu1
  go_ret
  exact SzP.yes (by rw [HS.out]; omega) (by rw [HS.out] <;> omega) uu1

set_option maxHeartbeats 1000000 in
theorem c_szImageS (xs : List TImage) (A : Option Addr) (c : Nat) (left : Int) (w : World) (h : SRW shImage w A c xs) (h0 : 0 ≤ left) (h1 : left ≤ 1048576) :
    Calls Tryz.prog 8 #[.slice A xs.length c, .int .i64 left] w (SzP left ((shL shImage).sz xs) w) := by
  have hlen := h.len_le
  have HS := Lib.hid (show (shL shImage).sz xs = xs.length + (xs.map shImage.sz).sum from rfl)
  go_enter Tryz.func8, Tryz.ntmps8
  go_wp2
  · go_ret
    exact SzP.no (by rw [HS.out]; omega) (Up.refl _)
  · go_loopw [1, 5] (fun l i wr => ∃ k : Nat, k ≤ xs.length ∧ i = .int .i64 k ∧ l = .int .i64 (left - xs.length - psum shImage.sz xs k) ∧ (xs.length + psum shImage.sz xs k : Int) ≤ left ∧ Up w wr) (fun _ i _ => xs.length - (intOf i).toNat)
    case atStart => exact ⟨0, Nat.zero_le _, rfl, by simp [psum_zero], by simp [psum_zero]; omega, Up.refl _⟩
    case round =>
      obtain ⟨k, hk, rfl, rfl, hp, hu⟩ := hrel
      by_cases hlt : k < xs.length
      · obtain ⟨g, off, A1, c1, rfl, _, _, hc0, hc1, hc2, hc3, hc4, hc5, b0, b1, b3, b5, _⟩ := atImage (h.up good_Image hu) hlt
        have HP := Lib.hid (psum_succ shImage.sz xs k hlt)
        have hle := psum_le shImage.sz xs (k + 1)
        rw [HP.out] at hle
        go_wp2_with fail
        refine (c_szImage _ xs[k] _ _ ⟨_, rfl, mkImage (x := xs[k]) b0 b1 b3 b5⟩ (by omega) (by omega)).mono ?_
        rintro e w1 ⟨rfl, hu1⟩
        by_cases hq : (shImage.sz xs[k] : Int) ≤ left - xs.length - psum shImage.sz xs k
        · rw [szR_yes hq]
          go_wp2_with fail
          go_roundw
          case rel => exact ⟨k + 1, by omega, by go_num, by rw [HP.out]; go_num, by rw [HP.out]; omega, hu.trans hu1⟩
          case measure => simp [intOf]; omega
        · rw [szR_no (by omega)]
          go_wp2_with fail
          go_ret
          exact SzP.no (by rw [HS.out]; omega) (hu.trans hu1)
      · have HK := Lib.hid (show k = xs.length by omega)
        go_wp2_with fail
        go_ret
        exact SzP.yes (by rw [HS.out, ← psum_all, ← HK.out]; omega) (by rw [HS.out, ← psum_all, ← HK.out]; omega) hu






end Go.Proofs.YtelioflobahchaaGreatDoor
