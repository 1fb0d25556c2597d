/-
  Contracts of the laws' sz helpers, by genlaw.py
-/
import Derived.Test.YtafabcabffeikaaRows
import Derived.Test.YtafabcabffeikaaTy
import Derived.Test.YtafabcabffeikaaRep2
import Derived.StillTailTactics
import Derived.Test.YtafabcabffeikaaLh
namespace Go.Proofs.Ytafabcabffeikaa
open Go.RowKit
set_option linter.unusedSimpArgs false
set_option linter.unusedVariables false

set_option maxHeartbeats 1000000 in
theorem c_szInt64S (xs : List Int) (A : Option Addr) (c : Nat) (left : Int) (w : World) (h : SRW shI w A c xs) (h0 : 0 ≤ left) (h1 : left ≤ 1048576) :
    Calls Try.prog 115 #[.slice A xs.length c, .int .i64 left] w (SzP left ((shL shI).sz xs) w) := by
  have hlen := h.len_le
  have HS : Hid ((shL shI).sz xs = xs.length) := by
    have : ∀ ys : List Int, (ys.map shI.sz).sum = 0 := fun ys => by induction ys with
      | nil => rfl
      | cons y ys ih => simp only [List.map_cons, List.sum_cons, ih]; rfl
    show xs.length + (xs.map shI.sz).sum = _
    rw [this]; rfl
  go_enter Try.func115, Try.ntmps115
  go_wp2
  · go_ret
    exact SzP.no (by rw [HS.out]; omega) (Up.refl _)
  · go_ret
    exact SzP.yes (by rw [HS.out]; omega) (by rw [HS.out]) (Up.refl _)


set_option maxHeartbeats 1000000 in
theorem c_szSeatS (xs : List TSeat) (A : Option Addr) (c : Nat) (left : Int) (w : World) (h : SRW shSeat w A c xs) (h0 : 0 ≤ left) (h1 : left ≤ 1048576) :
    Calls Try.prog 58 #[.slice A xs.length c, .int .i64 left] w (SzP left ((shL shSeat).sz xs) w) := by
  have hlen := h.len_le
  have HS : Hid ((shL shSeat).sz xs = xs.length) := by
    have : ∀ ys : List TSeat, (ys.map shSeat.sz).sum = 0 := fun ys => by induction ys with
      | nil => rfl
      | cons y ys ih => simp only [List.map_cons, List.sum_cons, ih]; rfl
    show xs.length + (xs.map shSeat.sz).sum = _
    rw [this]; rfl
  go_enter Try.func58, Try.ntmps58
  go_wp2
  · go_ret
    exact SzP.no (by rw [HS.out]; omega) (Up.refl _)
  · go_ret
    exact SzP.yes (by rw [HS.out]; omega) (by rw [HS.out]) (Up.refl _)

set_option maxHeartbeats 1000000 in
theorem c_szPut (v : Value) (x : TPut) (left : Int) (w : World) (h : AV shPut w v x) (h0 : 0 ≤ left) (h1 : left ≤ 1048576) :
    Calls Try.prog 126 #[v, .int .i64 left] w (SzP left (shPut.sz x) w) := by
  obtain ⟨cs, rfl, h⟩ := h
  obtain ⟨x0, x1⟩ := x
  have ho := openPut h
  try dsimp only at ho
  obtain ⟨rfl, b0, b1⟩ := ho
  have bm1 := b1; unfold maxLen at bm1
  have HS := Lib.hid (show shPut.sz (x0, x1) = 0 + (x1.size) from rfl)
  have kk0 : Bk (w.alloc (.cells #[.int .i64 x0, .string x1] 161)) w.heap.size 161 #[.int .i64 x0, .string x1] := Bk.new _ _ _
  have uu0 : Up w (w.alloc (.cells #[.int .i64 x0, .string x1] 161)) := (Up.refl _).alloc _
  go_enter Try.func126, Try.ntmps126
  go_wp2_with fail
  · go_ret
    exact SzP.no (by rw [HS.out]; omega) uu0
  go_ret
  exact SzP.yes (by rw [HS.out]; omega) (by rw [HS.out] <;> omega) uu0

set_option maxHeartbeats 1000000 in
theorem c_szPutS (xs : List TPut) (A : Option Addr) (c : Nat) (left : Int) (w : World) (h : SRW shPut w A c xs) (h0 : 0 ≤ left) (h1 : left ≤ 1048576) :
    Calls Try.prog 66 #[.slice A xs.length c, .int .i64 left] w (SzP left ((shL shPut).sz xs) w) := by
  have hlen := h.len_le
  have HS := Lib.hid (show (shL shPut).sz xs = xs.length + (xs.map shPut.sz).sum from rfl)
  go_enter Try.func66, Try.ntmps66
  go_wp2
  · go_ret
    exact SzP.no (by rw [HS.out]; omega) (Up.refl _)
  · go_loopw [1, 5] (fun l i wr => ∃ k : Nat, k ≤ xs.length ∧ i = .int .i64 k ∧ l = .int .i64 (left - xs.length - psum shPut.sz xs k) ∧ (xs.length + psum shPut.sz xs k : Int) ≤ left ∧ Up w wr) (fun _ i _ => xs.length - (intOf i).toNat)
    case atStart => exact ⟨0, Nat.zero_le _, rfl, by simp [psum_zero], by simp [psum_zero]; omega, Up.refl _⟩
    case round =>
      obtain ⟨k, hk, rfl, rfl, hp, hu⟩ := hrel
      by_cases hlt : k < xs.length
      · obtain ⟨g, off, rfl, _, _, hc0, hc1, b0, b1, _⟩ := atPut (h.up good_Put hu) hlt
        have HP := Lib.hid (psum_succ shPut.sz xs k hlt)
        have hle := psum_le shPut.sz xs (k + 1)
        rw [HP.out] at hle
        go_wp2_with fail
        refine (c_szPut _ xs[k] _ _ ⟨_, rfl, mkPut (x := xs[k]) b0 b1⟩ (by omega) (by omega)).mono ?_
        rintro e w1 ⟨rfl, hu1⟩
        by_cases hq : (shPut.sz xs[k] : Int) ≤ left - xs.length - psum shPut.sz xs k
        · rw [szR_yes hq]
          go_wp2_with fail
          go_roundw
          case rel => exact ⟨k + 1, by omega, by go_num, by rw [HP.out]; go_num, by rw [HP.out]; omega, hu.trans hu1⟩
          case measure => simp [intOf]; omega
        · rw [szR_no (by omega)]
          go_wp2_with fail
          go_ret
          exact SzP.no (by rw [HS.out]; omega) (hu.trans hu1)
      · have HK := Lib.hid (show k = xs.length by omega)
        go_wp2_with fail
        go_ret
        exact SzP.yes (by rw [HS.out, ← psum_all, ← HK.out]; omega) (by rw [HS.out, ← psum_all, ← HK.out]; omega) hu

set_option maxHeartbeats 1000000 in
theorem c_szTop (v : Value) (x : TTop) (left : Int) (w : World) (h : AV shTop w v x) (h0 : 0 ≤ left) (h1 : left ≤ 1048576) :
    Calls Try.prog 14 #[v, .int .i64 left] w (SzP left (shTop.sz x) w) := by
  obtain ⟨cs, rfl, h⟩ := h
  obtain ⟨x0, x1, x2, x3⟩ := x
  have ho := openTop h
  try dsimp only at ho
  obtain ⟨A3, c3, rfl, b0, b1, b2, b3⟩ := ho
  have HS := Lib.hid (show shTop.sz (x0, x1, x2, x3) = 0 + (0 + (0 + ((shL shSeat).sz x3))) from rfl)
  have kk0 : Bk (w.alloc (.cells #[.int .i64 x0, .int .i64 x1, .int .i64 x2, .slice A3 x3.length c3] 24)) w.heap.size 24 #[.int .i64 x0, .int .i64 x1, .int .i64 x2, .slice A3 x3.length c3] := Bk.new _ _ _
  have uu0 : Up w (w.alloc (.cells #[.int .i64 x0, .int .i64 x1, .int .i64 x2, .slice A3 x3.length c3] 24)) := (Up.refl _).alloc _
  go_enter Try.func14, Try.ntmps14
  go_wp2_with fail
  refine (c_szSeatS _ _ _ _ _ (b3.up good_Seat uu0) (by omega) (by omega)).mono ?_
  rintro e w1 ⟨rfl, u1⟩
  have uu1 := uu0.trans u1
  have kk1 := kk0.up u1
  have g1_3 : w1.cell? ⟨w.heap.size, 3, none⟩ = some (.slice A3 x3.length c3) := kk1.cell 3
  by_cases q0 : ¬ (((shL shSeat).sz x3 : Nat) : Int) ≤ left
  · rw [szR_no (by omega)]
    go_wp2_with fail
    go_ret
    exact SzP.no (by rw [HS.out]; omega) uu1
  replace q0 := Decidable.of_not_not q0
  rw [szR_yes q0]
  go_wp2_with fail
  go_ret
  exact SzP.yes (by rw [HS.out]; omega) (by rw [HS.out] <;> omega) uu1

set_option maxHeartbeats 1000000 in
theorem c_szDisk (v : Value) (x : TDisk) (left : Int) (w : World) (h : AV shDisk w v x) (h0 : 0 ≤ left) (h1 : left ≤ 1048576) :
    Calls Try.prog 19 #[v, .int .i64 left] w (SzP left (shDisk.sz x) w) := by
  obtain ⟨cs, rfl, h⟩ := h
  obtain ⟨x0, x1, x2⟩ := x
  have ho := openDisk h
  try dsimp only at ho
  obtain ⟨A1, c1, A2, c2, rfl, b0, b1, b2⟩ := ho
  have HS := Lib.hid (show shDisk.sz (x0, x1, x2) = 0 + ((shL shS).sz x1 + ((shL shPut).sz x2)) from rfl)
  have kk0 : Bk (w.alloc (.cells #[.int .i64 x0, .slice A1 x1.length c1, .slice A2 x2.length c2] 36)) w.heap.size 36 #[.int .i64 x0, .slice A1 x1.length c1, .slice A2 x2.length c2] := Bk.new _ _ _
  have uu0 : Up w (w.alloc (.cells #[.int .i64 x0, .slice A1 x1.length c1, .slice A2 x2.length c2] 36)) := (Up.refl _).alloc _
  go_enter Try.func19, Try.ntmps19
  go_wp2_with fail
  refine (c_szStringS _ _ _ _ _ (b1.up good_S uu0) (by omega) (by omega)).mono ?_
  rintro e w1 ⟨rfl, u1⟩
  have uu1 := uu0.trans u1
  have kk1 := kk0.up u1
  have g1_1 : w1.cell? ⟨w.heap.size, 1, none⟩ = some (.slice A1 x1.length c1) := kk1.cell 1
  have g1_2 : w1.cell? ⟨w.heap.size, 2, none⟩ = some (.slice A2 x2.length c2) := kk1.cell 2
  by_cases q0 : ¬ (((shL shS).sz x1 : Nat) : Int) ≤ left
  · rw [szR_no (by omega)]
    go_wp2_with fail
    go_ret
    exact SzP.no (by rw [HS.out]; omega) uu1
  replace q0 := Decidable.of_not_not q0
  rw [szR_yes q0]
  go_wp2_with fail
  refine (c_szPutS _ _ _ _ _ (b2.up good_Put uu1) (by omega) (by omega)).mono ?_
  rintro e w2 ⟨rfl, u2⟩
  have uu2 := uu1.trans u2
  have kk2 := kk1.up u2
  have g2_2 : w2.cell? ⟨w.heap.size, 2, none⟩ = some (.slice A2 x2.length c2) := kk2.cell 2
  by_cases q1 : ¬ (((shL shPut).sz x2 : Nat) : Int) ≤ left - ((shL shS).sz x1 : Nat)
  · rw [szR_no (by omega)]
    go_wp2_with fail
    go_ret
    exact SzP.no (by rw [HS.out]; omega) uu2
  replace q1 := Decidable.of_not_not q1
  rw [szR_yes q1]
  go_wp2_with fail
  go_ret
  exact SzP.yes (by rw [HS.out]; omega) (by rw [HS.out] <;> omega) uu2





set_option maxHeartbeats 1000000 in
theorem c_szJournal (v : Value) (x : TJournal) (left : Int) (w : World) (h : AV shJournal w v x) (h0 : 0 ≤ left) (h1 : left ≤ 1048576) :
    Calls Try.prog 37 #[v, .int .i64 left] w (SzP left (shJournal.sz x) w) := by
  obtain ⟨cs, rfl, h⟩ := h
  obtain ⟨⟨x0, x1, x2⟩, x3, x4, x5, x6⟩ := x
  have ho := openJournal h
  try dsimp only at ho
  obtain ⟨A1, c1, A2, c2, rfl, b0, b1, b2, b3, b4, b5, b6⟩ := ho
  have HS := Lib.hid (show shJournal.sz ((x0, x1, x2), x3, x4, x5, x6) = shDisk.sz (x0, x1, x2) + (0 + (0 + (0 + (0)))) from rfl)
  have kk0 : Bk (w.alloc (.cells #[.int .i64 x0, .slice A1 x1.length c1, .slice A2 x2.length c2, .int .i64 x3, .int .i64 x4, .int .i64 x5, .int .i64 x6] 60)) w.heap.size 60 #[.int .i64 x0, .slice A1 x1.length c1, .slice A2 x2.length c2, .int .i64 x3, .int .i64 x4, .int .i64 x5, .int .i64 x6] := Bk.new _ _ _
  have uu0 : Up w (w.alloc (.cells #[.int .i64 x0, .slice A1 x1.length c1, .slice A2 x2.length c2, .int .i64 x3, .int .i64 x4, .int .i64 x5, .int .i64 x6] 60)) := (Up.refl _).alloc _
  go_enter Try.func37, Try.ntmps37
  go_wp2_with fail
  refine (c_szDisk _ (x0, x1, x2) _ _ ⟨_, rfl, mkDisk (x := (x0, x1, x2)) b0 (b1.up good_S uu0) (b2.up good_Put uu0)⟩ (by omega) (by omega)).mono ?_
  rintro e w1 ⟨rfl, u1⟩
  have uu1 := uu0.trans u1
  have kk1 := kk0.up u1
  have g1_0 : w1.cell? ⟨w.heap.size, 0, none⟩ = some (.int .i64 x0) := kk1.cell 0
  have g1_1 : w1.cell? ⟨w.heap.size, 1, none⟩ = some (.slice A1 x1.length c1) := kk1.cell 1
  have g1_2 : w1.cell? ⟨w.heap.size, 2, none⟩ = some (.slice A2 x2.length c2) := kk1.cell 2
  have g1_3 : w1.cell? ⟨w.heap.size, 3, none⟩ = some (.int .i64 x3) := kk1.cell 3
  have g1_4 : w1.cell? ⟨w.heap.size, 4, none⟩ = some (.int .i64 x4) := kk1.cell 4
  have g1_5 : w1.cell? ⟨w.heap.size, 5, none⟩ = some (.int .i64 x5) := kk1.cell 5
  have g1_6 : w1.cell? ⟨w.heap.size, 6, none⟩ = some (.int .i64 x6) := kk1.cell 6
  by_cases q0 : ¬ ((shDisk.sz (x0, x1, x2) : Nat) : Int) ≤ left
  · rw [szR_no (by omega)]
    go_wp2_with fail
    go_ret
    exact SzP.no (by rw [HS.out]; omega) uu1
  replace q0 := Decidable.of_not_not q0
  rw [szR_yes q0]
  go_wp2_with fail
  go_ret
  exact SzP.yes (by rw [HS.out]; omega) (by rw [HS.out] <;> omega) uu1

set_option maxHeartbeats 1000000 in
theorem c_szNode (v : Value) (x : TNode) (left : Int) (w : World) (h : AV shNode w v x) (h0 : 0 ≤ left) (h1 : left ≤ 1048576) :
    Calls Try.prog 170 #[v, .int .i64 left] w (SzP left (shNode.sz x) w) := by
  obtain ⟨cs, rfl, h⟩ := h
  obtain ⟨x0, x1, x2⟩ := x
  have ho := openNode h
  try dsimp only at ho
  obtain ⟨A1, c1, rfl, b0, b1, b2⟩ := ho
  have bm0 := b0; unfold maxLen at bm0
  have bm2 := b2; unfold maxLen at bm2
  have HS := Lib.hid (show shNode.sz (x0, x1, x2) = x0.size + ((shL shS).sz x1 + (x2.size)) from rfl)
  have kk0 : Bk (w.alloc (.cells #[.string x0, .slice A1 x1.length c1, .string x2] 216)) w.heap.size 216 #[.string x0, .slice A1 x1.length c1, .string x2] := Bk.new _ _ _
  have uu0 : Up w (w.alloc (.cells #[.string x0, .slice A1 x1.length c1, .string x2] 216)) := (Up.refl _).alloc _
  go_enter Try.func170, Try.ntmps170
  go_wp2_with fail
  · go_ret
    exact SzP.no (by rw [HS.out]; omega) uu0
  refine (c_szStringS _ _ _ _ _ (b1.up good_S uu0) (by omega) (by omega)).mono ?_
  rintro e w1 ⟨rfl, u1⟩
  have uu1 := uu0.trans u1
  have kk1 := kk0.up u1
  have g1_1 : w1.cell? ⟨w.heap.size, 1, none⟩ = some (.slice A1 x1.length c1) := kk1.cell 1
  have g1_2 : w1.cell? ⟨w.heap.size, 2, none⟩ = some (.string x2) := kk1.cell 2
  by_cases q1 : ¬ (((shL shS).sz x1 : Nat) : Int) ≤ left - (x0.size : Nat)
  · rw [szR_no (by omega)]
    go_wp2_with fail
    go_ret
    exact SzP.no (by rw [HS.out]; omega) uu1
  replace q1 := Decidable.of_not_not q1
  rw [szR_yes q1]
  go_wp2_with fail
  · go_ret
    exact SzP.no (by rw [HS.out]; omega) uu1
  go_ret
  exact SzP.yes (by rw [HS.out]; omega) (by rw [HS.out] <;> omega) uu1

set_option maxHeartbeats 1000000 in
theorem c_szNodeS (xs : List TNode) (A : Option Addr) (c : Nat) (left : Int) (w : World) (h : SRW shNode w A c xs) (h0 : 0 ≤ left) (h1 : left ≤ 1048576) :
    Calls Try.prog 144 #[.slice A xs.length c, .int .i64 left] w (SzP left ((shL shNode).sz xs) w) := by
  have hlen := h.len_le
  have HS := Lib.hid (show (shL shNode).sz xs = xs.length + (xs.map shNode.sz).sum from rfl)
  go_enter Try.func144, Try.ntmps144
  go_wp2
  · go_ret
    exact SzP.no (by rw [HS.out]; omega) (Up.refl _)
  · go_loopw [1, 5] (fun l i wr => ∃ k : Nat, k ≤ xs.length ∧ i = .int .i64 k ∧ l = .int .i64 (left - xs.length - psum shNode.sz xs k) ∧ (xs.length + psum shNode.sz xs k : Int) ≤ left ∧ Up w wr) (fun _ i _ => xs.length - (intOf i).toNat)
    case atStart => exact ⟨0, Nat.zero_le _, rfl, by simp [psum_zero], by simp [psum_zero]; omega, Up.refl _⟩
    case round =>
      obtain ⟨k, hk, rfl, rfl, hp, hu⟩ := hrel
      by_cases hlt : k < xs.length
      · obtain ⟨g, off, A1, c1, rfl, _, _, hc0, hc1, hc2, b0, b1, b2, _⟩ := atNode (h.up good_Node hu) hlt
        have HP := Lib.hid (psum_succ shNode.sz xs k hlt)
        have hle := psum_le shNode.sz xs (k + 1)
        rw [HP.out] at hle
        go_wp2_with fail
        refine (c_szNode _ xs[k] _ _ ⟨_, rfl, mkNode (x := xs[k]) b0 b1 b2⟩ (by omega) (by omega)).mono ?_
        rintro e w1 ⟨rfl, hu1⟩
        by_cases hq : (shNode.sz xs[k] : Int) ≤ left - xs.length - psum shNode.sz xs k
        · rw [szR_yes hq]
          go_wp2_with fail
          go_roundw
          case rel => exact ⟨k + 1, by omega, by go_num, by rw [HP.out]; go_num, by rw [HP.out]; omega, hu.trans hu1⟩
          case measure => simp [intOf]; omega
        · rw [szR_no (by omega)]
          go_wp2_with fail
          go_ret
          exact SzP.no (by rw [HS.out]; omega) (hu.trans hu1)
      · have HK := Lib.hid (show k = xs.length by omega)
        go_wp2_with fail
        go_ret
        exact SzP.yes (by rw [HS.out, ← psum_all, ← HK.out]; omega) (by rw [HS.out, ← psum_all, ← HK.out]; omega) hu

set_option maxHeartbeats 1000000 in
theorem c_szTree (v : Value) (x : TTree) (left : Int) (w : World) (h : AV shTree w v x) (h0 : 0 ≤ left) (h1 : left ≤ 1048576) :
    Calls Try.prog 104 #[v, .int .i64 left] w (SzP left (shTree.sz x) w) := by
  obtain ⟨cs, rfl, h⟩ := h
  obtain ⟨x0, rfl⟩ : ∃ q, q = x := ⟨_, rfl⟩
  have ho := openTree h
  try dsimp only at ho
  obtain ⟨A0, c0, rfl, b0⟩ := ho
  have HS := Lib.hid (show shTree.sz x0 = (shL shNode).sz x0 from rfl)
  have kk0 : Bk (w.alloc (.cells #[.slice A0 x0.length c0] 75)) w.heap.size 75 #[.slice A0 x0.length c0] := Bk.new _ _ _
  have uu0 : Up w (w.alloc (.cells #[.slice A0 x0.length c0] 75)) := (Up.refl _).alloc _
  go_enter Try.func104, Try.ntmps104
  go_wp2_with fail
  refine (c_szNodeS _ _ _ _ _ (b0.up good_Node uu0) (by omega) (by omega)).mono ?_
  rintro e w1 ⟨rfl, u1⟩
  have uu1 := uu0.trans u1
  have kk1 := kk0.up u1
  have g1_0 : w1.cell? ⟨w.heap.size, 0, none⟩ = some (.slice A0 x0.length c0) := kk1.cell 0
  by_cases q0 : ¬ (((shL shNode).sz x0 : Nat) : Int) ≤ left
  · rw [szR_no (by omega)]
    go_wp2_with fail
    go_ret
    exact SzP.no (by rw [HS.out]; omega) uu1
  replace q0 := Decidable.of_not_not q0
  rw [szR_yes q0]
  go_wp2_with fail
  go_ret
  exact SzP.yes (by rw [HS.out]; omega) (by rw [HS.out] <;> omega) uu1

set_option maxHeartbeats 1000000 in
theorem c_szImage (v : Value) (x : TImage) (left : Int) (w : World) (h : AV shImage w v x) (h0 : 0 ≤ left) (h1 : left ≤ 1048576) :
    Calls Try.prog 181 #[v, .int .i64 left] w (SzP left (shImage.sz x) w) := by
  obtain ⟨cs, rfl, h⟩ := h
  obtain ⟨x0, x1, x2, x3, x4, x5⟩ := x
  have ho := openImage h
  try dsimp only at ho
  obtain ⟨A1, c1, rfl, b0, b1, b3, b5⟩ := ho
  have bm0 := b0; unfold maxLen at bm0
  have bm3 := b3; unfold maxLen at bm3
  have bm5 := b5; unfold maxLen at bm5
  have HS := Lib.hid (show shImage.sz (x0, x1, x2, x3, x4, x5) = x0.size + ((shL shS).sz x1 + (0 + (x3.size + (0 + (x5.size))))) from rfl)
  have kk0 : Bk (w.alloc (.cells #[.string x0, .slice A1 x1.length c1, .bool x2, .string x3, .bool x4, .string x5] 221)) w.heap.size 221 #[.string x0, .slice A1 x1.length c1, .bool x2, .string x3, .bool x4, .string x5] := Bk.new _ _ _
  have uu0 : Up w (w.alloc (.cells #[.string x0, .slice A1 x1.length c1, .bool x2, .string x3, .bool x4, .string x5] 221)) := (Up.refl _).alloc _
  go_enter Try.func181, Try.ntmps181
  go_wp2_with fail
  · go_ret
    exact SzP.no (by rw [HS.out]; omega) uu0
  refine (c_szStringS _ _ _ _ _ (b1.up good_S uu0) (by omega) (by omega)).mono ?_
  rintro e w1 ⟨rfl, u1⟩
  have uu1 := uu0.trans u1
  have kk1 := kk0.up u1
  have g1_1 : w1.cell? ⟨w.heap.size, 1, none⟩ = some (.slice A1 x1.length c1) := kk1.cell 1
  have g1_2 : w1.cell? ⟨w.heap.size, 2, none⟩ = some (.bool x2) := kk1.cell 2
  have g1_3 : w1.cell? ⟨w.heap.size, 3, none⟩ = some (.string x3) := kk1.cell 3
  have g1_4 : w1.cell? ⟨w.heap.size, 4, none⟩ = some (.bool x4) := kk1.cell 4
  have g1_5 : w1.cell? ⟨w.heap.size, 5, none⟩ = some (.string x5) := kk1.cell 5
  by_cases q1 : ¬ (((shL shS).sz x1 : Nat) : Int) ≤ left - (x0.size : Nat)
  · rw [szR_no (by omega)]
    go_wp2_with fail
    go_ret
    exact SzP.no (by rw [HS.out]; omega) uu1
  replace q1 := Decidable.of_not_not q1
  rw [szR_yes q1]
  go_wp2_with fail
  · go_ret
    exact SzP.no (by rw [HS.out]; omega) uu1
  · go_ret
    exact SzP.no (by rw [HS.out]; omega) uu1
  go_ret
  exact SzP.yes (by rw [HS.out]; omega) (by rw [HS.out] <;> omega) uu1

set_option maxHeartbeats 1000000 in
theorem c_szImageS (xs : List TImage) (A : Option Addr) (c : Nat) (left : Int) (w : World) (h : SRW shImage w A c xs) (h0 : 0 ≤ left) (h1 : left ≤ 1048576) :
    Calls Try.prog 171 #[.slice A xs.length c, .int .i64 left] w (SzP left ((shL shImage).sz xs) w) := by
  have hlen := h.len_le
  have HS := Lib.hid (show (shL shImage).sz xs = xs.length + (xs.map shImage.sz).sum from rfl)
  go_enter Try.func171, Try.ntmps171
  go_wp2
  · go_ret
    exact SzP.no (by rw [HS.out]; omega) (Up.refl _)
  · go_loopw [1, 5] (fun l i wr => ∃ k : Nat, k ≤ xs.length ∧ i = .int .i64 k ∧ l = .int .i64 (left - xs.length - psum shImage.sz xs k) ∧ (xs.length + psum shImage.sz xs k : Int) ≤ left ∧ Up w wr) (fun _ i _ => xs.length - (intOf i).toNat)
    case atStart => exact ⟨0, Nat.zero_le _, rfl, by simp [psum_zero], by simp [psum_zero]; omega, Up.refl _⟩
    case round =>
      obtain ⟨k, hk, rfl, rfl, hp, hu⟩ := hrel
      by_cases hlt : k < xs.length
      · obtain ⟨g, off, A1, c1, rfl, _, _, hc0, hc1, hc2, hc3, hc4, hc5, b0, b1, b3, b5, _⟩ := atImage (h.up good_Image hu) hlt
        have HP := Lib.hid (psum_succ shImage.sz xs k hlt)
        have hle := psum_le shImage.sz xs (k + 1)
        rw [HP.out] at hle
        go_wp2_with fail
        refine (c_szImage _ xs[k] _ _ ⟨_, rfl, mkImage (x := xs[k]) b0 b1 b3 b5⟩ (by omega) (by omega)).mono ?_
        rintro e w1 ⟨rfl, hu1⟩
        by_cases hq : (shImage.sz xs[k] : Int) ≤ left - xs.length - psum shImage.sz xs k
        · rw [szR_yes hq]
          go_wp2_with fail
          go_roundw
          case rel => exact ⟨k + 1, by omega, by go_num, by rw [HP.out]; go_num, by rw [HP.out]; omega, hu.trans hu1⟩
          case measure => simp [intOf]; omega
        · rw [szR_no (by omega)]
          go_wp2_with fail
          go_ret
          exact SzP.no (by rw [HS.out]; omega) (hu.trans hu1)
      · have HK := Lib.hid (show k = xs.length by omega)
        go_wp2_with fail
        go_ret
        exact SzP.yes (by rw [HS.out, ← psum_all, ← HK.out]; omega) (by rw [HS.out, ← psum_all, ← HK.out]; omega) hu

set_option maxHeartbeats 1000000 in
theorem c_szParcel (v : Value) (x : TParcel) (left : Int) (w : World) (h : AV shParcel w v x) (h0 : 0 ≤ left) (h1 : left ≤ 1048576) :
    Calls Try.prog 145 #[v, .int .i64 left] w (SzP left (shParcel.sz x) w) := by
  obtain ⟨cs, rfl, h⟩ := h
  obtain ⟨x0, x1⟩ := x
  have ho := openParcel h
  try dsimp only at ho
  obtain ⟨A1, c1, rfl, b0, b1⟩ := ho
  have HS := Lib.hid (show shParcel.sz (x0, x1) = 0 + ((shL shImage).sz x1) from rfl)
  have kk0 : Bk (w.alloc (.cells #[.int .i64 x0, .slice A1 x1.length c1] 185)) w.heap.size 185 #[.int .i64 x0, .slice A1 x1.length c1] := Bk.new _ _ _
  have uu0 : Up w (w.alloc (.cells #[.int .i64 x0, .slice A1 x1.length c1] 185)) := (Up.refl _).alloc _
  go_enter Try.func145, Try.ntmps145
  go_wp2_with fail
  refine (c_szImageS _ _ _ _ _ (b1.up good_Image uu0) (by omega) (by omega)).mono ?_
  rintro e w1 ⟨rfl, u1⟩
  have uu1 := uu0.trans u1
  have kk1 := kk0.up u1
  have g1_1 : w1.cell? ⟨w.heap.size, 1, none⟩ = some (.slice A1 x1.length c1) := kk1.cell 1
  by_cases q0 : ¬ (((shL shImage).sz x1 : Nat) : Int) ≤ left
  · rw [szR_no (by omega)]
    go_wp2_with fail
    go_ret
    exact SzP.no (by rw [HS.out]; omega) uu1
  replace q0 := Decidable.of_not_not q0
  rw [szR_yes q0]
  go_wp2_with fail
  go_ret
  exact SzP.yes (by rw [HS.out]; omega) (by rw [HS.out] <;> omega) uu1

set_option maxHeartbeats 1000000 in
theorem c_szParcelS (xs : List TParcel) (A : Option Addr) (c : Nat) (left : Int) (w : World) (h : SRW shParcel w A c xs) (h0 : 0 ≤ left) (h1 : left ≤ 1048576) :
    Calls Try.prog 105 #[.slice A xs.length c, .int .i64 left] w (SzP left ((shL shParcel).sz xs) w) := by
  have hlen := h.len_le
  have HS := Lib.hid (show (shL shParcel).sz xs = xs.length + (xs.map shParcel.sz).sum from rfl)
  go_enter Try.func105, Try.ntmps105
  go_wp2
  · go_ret
    exact SzP.no (by rw [HS.out]; omega) (Up.refl _)
  · go_loopw [1, 5] (fun l i wr => ∃ k : Nat, k ≤ xs.length ∧ i = .int .i64 k ∧ l = .int .i64 (left - xs.length - psum shParcel.sz xs k) ∧ (xs.length + psum shParcel.sz xs k : Int) ≤ left ∧ Up w wr) (fun _ i _ => xs.length - (intOf i).toNat)
    case atStart => exact ⟨0, Nat.zero_le _, rfl, by simp [psum_zero], by simp [psum_zero]; omega, Up.refl _⟩
    case round =>
      obtain ⟨k, hk, rfl, rfl, hp, hu⟩ := hrel
      by_cases hlt : k < xs.length
      · obtain ⟨g, off, A1, c1, rfl, _, _, hc0, hc1, b0, b1, _⟩ := atParcel (h.up good_Parcel hu) hlt
        have HP := Lib.hid (psum_succ shParcel.sz xs k hlt)
        have hle := psum_le shParcel.sz xs (k + 1)
        rw [HP.out] at hle
        go_wp2_with fail
        refine (c_szParcel _ xs[k] _ _ ⟨_, rfl, mkParcel (x := xs[k]) b0 b1⟩ (by omega) (by omega)).mono ?_
        rintro e w1 ⟨rfl, hu1⟩
        by_cases hq : (shParcel.sz xs[k] : Int) ≤ left - xs.length - psum shParcel.sz xs k
        · rw [szR_yes hq]
          go_wp2_with fail
          go_roundw
          case rel => exact ⟨k + 1, by omega, by go_num, by rw [HP.out]; go_num, by rw [HP.out]; omega, hu.trans hu1⟩
          case measure => simp [intOf]; omega
        · rw [szR_no (by omega)]
          go_wp2_with fail
          go_ret
          exact SzP.no (by rw [HS.out]; omega) (hu.trans hu1)
      · have HK := Lib.hid (show k = xs.length by omega)
        go_wp2_with fail
        go_ret
        exact SzP.yes (by rw [HS.out, ← psum_all, ← HK.out]; omega) (by rw [HS.out, ← psum_all, ← HK.out]; omega) hu

set_option maxHeartbeats 1000000 in
theorem c_szReplica (v : Value) (x : TReplica) (left : Int) (w : World) (h : AV shReplica w v x) (h0 : 0 ≤ left) (h1 : left ≤ 1048576) :
    Calls Try.prog 48 #[v, .int .i64 left] w (SzP left (shReplica.sz x) w) := by
  obtain ⟨cs, rfl, h⟩ := h
  obtain ⟨x0, x1, x2⟩ := x
  have ho := openReplica h
  try dsimp only at ho
  obtain ⟨A0, c0, A2, c2, rfl, b0, b1, b2⟩ := ho
  have HS := Lib.hid (show shReplica.sz (x0, x1, x2) = shTree.sz x0 + (0 + ((shL shParcel).sz x2)) from rfl)
  have kk0 : Bk (w.alloc (.cells #[.slice A0 x0.length c0, .int .i64 x1, .slice A2 x2.length c2] 78)) w.heap.size 78 #[.slice A0 x0.length c0, .int .i64 x1, .slice A2 x2.length c2] := Bk.new _ _ _
  have uu0 : Up w (w.alloc (.cells #[.slice A0 x0.length c0, .int .i64 x1, .slice A2 x2.length c2] 78)) := (Up.refl _).alloc _
  go_enter Try.func48, Try.ntmps48
  go_wp2_with fail
  refine (c_szTree _ x0 _ _ ⟨_, rfl, mkTree (x := x0) (b0.up good_Node uu0)⟩ (by omega) (by omega)).mono ?_
  rintro e w1 ⟨rfl, u1⟩
  have uu1 := uu0.trans u1
  have kk1 := kk0.up u1
  have g1_0 : w1.cell? ⟨w.heap.size, 0, none⟩ = some (.slice A0 x0.length c0) := kk1.cell 0
  have g1_1 : w1.cell? ⟨w.heap.size, 1, none⟩ = some (.int .i64 x1) := kk1.cell 1
  have g1_2 : w1.cell? ⟨w.heap.size, 2, none⟩ = some (.slice A2 x2.length c2) := kk1.cell 2
  by_cases q0 : ¬ ((shTree.sz x0 : Nat) : Int) ≤ left
  · rw [szR_no (by omega)]
    go_wp2_with fail
    go_ret
    exact SzP.no (by rw [HS.out]; omega) uu1
  replace q0 := Decidable.of_not_not q0
  rw [szR_yes q0]
  go_wp2_with fail
  refine (c_szParcelS _ _ _ _ _ (b2.up good_Parcel uu1) (by omega) (by omega)).mono ?_
  rintro e w2 ⟨rfl, u2⟩
  have uu2 := uu1.trans u2
  have kk2 := kk1.up u2
  have g2_2 : w2.cell? ⟨w.heap.size, 2, none⟩ = some (.slice A2 x2.length c2) := kk2.cell 2
  by_cases q1 : ¬ (((shL shParcel).sz x2 : Nat) : Int) ≤ left - (shTree.sz x0 : Nat)
  · rw [szR_no (by omega)]
    go_wp2_with fail
    go_ret
    exact SzP.no (by rw [HS.out]; omega) uu2
  replace q1 := Decidable.of_not_not q1
  rw [szR_yes q1]
  go_wp2_with fail
  go_ret
  exact SzP.yes (by rw [HS.out]; omega) (by rw [HS.out] <;> omega) uu2

set_option maxHeartbeats 1000000 in
theorem c_szCache (v : Value) (x : TCache) (left : Int) (w : World) (h : AV shCache w v x) (h0 : 0 ≤ left) (h1 : left ≤ 1048576) :
    Calls Try.prog 53 #[v, .int .i64 left] w (SzP left (shCache.sz x) w) := by
  obtain ⟨cs, rfl, h⟩ := h
  obtain ⟨⟨x0, x1, x2⟩, ⟨x3, x4, x5, x6⟩, ⟨x7, x8, x9, x10⟩, x11, x12⟩ := x
  have ho := openCache h
  try dsimp only at ho
  obtain ⟨A1, c1, A2, c2, A6, c6, A10, c10, A11, c11, A12, c12, rfl, b0, b1, b2, b3, b4, b5, b6, b7, b8, b9, b10, b11, b12⟩ := ho
  have HS := Lib.hid (show shCache.sz ((x0, x1, x2), (x3, x4, x5, x6), (x7, x8, x9, x10), x11, x12) = shDisk.sz (x0, x1, x2) + (shTop.sz (x3, x4, x5, x6) + (shTop.sz (x7, x8, x9, x10) + ((shL shSeat).sz x11 + ((shL shI).sz x12)))) from rfl)
  have kk0 : Bk (w.alloc (.cells #[.int .i64 x0, .slice A1 x1.length c1, .slice A2 x2.length c2, .int .i64 x3, .int .i64 x4, .int .i64 x5, .slice A6 x6.length c6, .int .i64 x7, .int .i64 x8, .int .i64 x9, .slice A10 x10.length c10, .slice A11 x11.length c11, .slice A12 x12.length c12] 90)) w.heap.size 90 #[.int .i64 x0, .slice A1 x1.length c1, .slice A2 x2.length c2, .int .i64 x3, .int .i64 x4, .int .i64 x5, .slice A6 x6.length c6, .int .i64 x7, .int .i64 x8, .int .i64 x9, .slice A10 x10.length c10, .slice A11 x11.length c11, .slice A12 x12.length c12] := Bk.new _ _ _
  have uu0 : Up w (w.alloc (.cells #[.int .i64 x0, .slice A1 x1.length c1, .slice A2 x2.length c2, .int .i64 x3, .int .i64 x4, .int .i64 x5, .slice A6 x6.length c6, .int .i64 x7, .int .i64 x8, .int .i64 x9, .slice A10 x10.length c10, .slice A11 x11.length c11, .slice A12 x12.length c12] 90)) := (Up.refl _).alloc _
  go_enter Try.func53, Try.ntmps53
  go_wp2_with fail
  refine (c_szDisk _ (x0, x1, x2) _ _ ⟨_, rfl, mkDisk (x := (x0, x1, x2)) b0 (b1.up good_S uu0) (b2.up good_Put uu0)⟩ (by omega) (by omega)).mono ?_
  rintro e w1 ⟨rfl, u1⟩
  have uu1 := uu0.trans u1
  have kk1 := kk0.up u1
  have g1_0 : w1.cell? ⟨w.heap.size, 0, none⟩ = some (.int .i64 x0) := kk1.cell 0
  have g1_1 : w1.cell? ⟨w.heap.size, 1, none⟩ = some (.slice A1 x1.length c1) := kk1.cell 1
  have g1_2 : w1.cell? ⟨w.heap.size, 2, none⟩ = some (.slice A2 x2.length c2) := kk1.cell 2
  have g1_3 : w1.cell? ⟨w.heap.size, 3, none⟩ = some (.int .i64 x3) := kk1.cell 3
  have g1_4 : w1.cell? ⟨w.heap.size, 4, none⟩ = some (.int .i64 x4) := kk1.cell 4
  have g1_5 : w1.cell? ⟨w.heap.size, 5, none⟩ = some (.int .i64 x5) := kk1.cell 5
  have g1_6 : w1.cell? ⟨w.heap.size, 6, none⟩ = some (.slice A6 x6.length c6) := kk1.cell 6
  have g1_7 : w1.cell? ⟨w.heap.size, 7, none⟩ = some (.int .i64 x7) := kk1.cell 7
  have g1_8 : w1.cell? ⟨w.heap.size, 8, none⟩ = some (.int .i64 x8) := kk1.cell 8
  have g1_9 : w1.cell? ⟨w.heap.size, 9, none⟩ = some (.int .i64 x9) := kk1.cell 9
  have g1_10 : w1.cell? ⟨w.heap.size, 10, none⟩ = some (.slice A10 x10.length c10) := kk1.cell 10
  have g1_11 : w1.cell? ⟨w.heap.size, 11, none⟩ = some (.slice A11 x11.length c11) := kk1.cell 11
  have g1_12 : w1.cell? ⟨w.heap.size, 12, none⟩ = some (.slice A12 x12.length c12) := kk1.cell 12
  by_cases q0 : ¬ ((shDisk.sz (x0, x1, x2) : Nat) : Int) ≤ left
  · rw [szR_no (by omega)]
    go_wp2_with fail
    go_ret
    exact SzP.no (by rw [HS.out]; omega) uu1
  replace q0 := Decidable.of_not_not q0
  rw [szR_yes q0]
  go_wp2_with fail
  refine (c_szTop _ (x3, x4, x5, x6) _ _ ⟨_, rfl, mkTop (x := (x3, x4, x5, x6)) b3 b4 b5 (b6.up good_Seat uu1)⟩ (by omega) (by omega)).mono ?_
  rintro e w2 ⟨rfl, u2⟩
  have uu2 := uu1.trans u2
  have kk2 := kk1.up u2
  have g2_3 : w2.cell? ⟨w.heap.size, 3, none⟩ = some (.int .i64 x3) := kk2.cell 3
  have g2_4 : w2.cell? ⟨w.heap.size, 4, none⟩ = some (.int .i64 x4) := kk2.cell 4
  have g2_5 : w2.cell? ⟨w.heap.size, 5, none⟩ = some (.int .i64 x5) := kk2.cell 5
  have g2_6 : w2.cell? ⟨w.heap.size, 6, none⟩ = some (.slice A6 x6.length c6) := kk2.cell 6
  have g2_7 : w2.cell? ⟨w.heap.size, 7, none⟩ = some (.int .i64 x7) := kk2.cell 7
  have g2_8 : w2.cell? ⟨w.heap.size, 8, none⟩ = some (.int .i64 x8) := kk2.cell 8
  have g2_9 : w2.cell? ⟨w.heap.size, 9, none⟩ = some (.int .i64 x9) := kk2.cell 9
  have g2_10 : w2.cell? ⟨w.heap.size, 10, none⟩ = some (.slice A10 x10.length c10) := kk2.cell 10
  have g2_11 : w2.cell? ⟨w.heap.size, 11, none⟩ = some (.slice A11 x11.length c11) := kk2.cell 11
  have g2_12 : w2.cell? ⟨w.heap.size, 12, none⟩ = some (.slice A12 x12.length c12) := kk2.cell 12
  by_cases q1 : ¬ ((shTop.sz (x3, x4, x5, x6) : Nat) : Int) ≤ left - (shDisk.sz (x0, x1, x2) : Nat)
  · rw [szR_no (by omega)]
    go_wp2_with fail
    go_ret
    exact SzP.no (by rw [HS.out]; omega) uu2
  replace q1 := Decidable.of_not_not q1
  rw [szR_yes q1]
  go_wp2_with fail
  refine (c_szTop _ (x7, x8, x9, x10) _ _ ⟨_, rfl, mkTop (x := (x7, x8, x9, x10)) b7 b8 b9 (b10.up good_Seat uu2)⟩ (by omega) (by omega)).mono ?_
  rintro e w3 ⟨rfl, u3⟩
  have uu3 := uu2.trans u3
  have kk3 := kk2.up u3
  have g3_7 : w3.cell? ⟨w.heap.size, 7, none⟩ = some (.int .i64 x7) := kk3.cell 7
  have g3_8 : w3.cell? ⟨w.heap.size, 8, none⟩ = some (.int .i64 x8) := kk3.cell 8
  have g3_9 : w3.cell? ⟨w.heap.size, 9, none⟩ = some (.int .i64 x9) := kk3.cell 9
  have g3_10 : w3.cell? ⟨w.heap.size, 10, none⟩ = some (.slice A10 x10.length c10) := kk3.cell 10
  have g3_11 : w3.cell? ⟨w.heap.size, 11, none⟩ = some (.slice A11 x11.length c11) := kk3.cell 11
  have g3_12 : w3.cell? ⟨w.heap.size, 12, none⟩ = some (.slice A12 x12.length c12) := kk3.cell 12
  by_cases q2 : ¬ ((shTop.sz (x7, x8, x9, x10) : Nat) : Int) ≤ left - (shDisk.sz (x0, x1, x2) : Nat) - (shTop.sz (x3, x4, x5, x6) : Nat)
  · rw [szR_no (by omega)]
    go_wp2_with fail
    go_ret
    exact SzP.no (by rw [HS.out]; omega) uu3
  replace q2 := Decidable.of_not_not q2
  rw [szR_yes q2]
  go_wp2_with fail
  refine (c_szSeatS _ _ _ _ _ (b11.up good_Seat uu3) (by omega) (by omega)).mono ?_
  rintro e w4 ⟨rfl, u4⟩
  have uu4 := uu3.trans u4
  have kk4 := kk3.up u4
  have g4_11 : w4.cell? ⟨w.heap.size, 11, none⟩ = some (.slice A11 x11.length c11) := kk4.cell 11
  have g4_12 : w4.cell? ⟨w.heap.size, 12, none⟩ = some (.slice A12 x12.length c12) := kk4.cell 12
  by_cases q3 : ¬ (((shL shSeat).sz x11 : Nat) : Int) ≤ left - (shDisk.sz (x0, x1, x2) : Nat) - (shTop.sz (x3, x4, x5, x6) : Nat) - (shTop.sz (x7, x8, x9, x10) : Nat)
  · rw [szR_no (by omega)]
    go_wp2_with fail
    go_ret
    exact SzP.no (by rw [HS.out]; omega) uu4
  replace q3 := Decidable.of_not_not q3
  rw [szR_yes q3]
  go_wp2_with fail
  refine (c_szInt64S _ _ _ _ _ (b12.up good_I uu4) (by omega) (by omega)).mono ?_
  rintro e w5 ⟨rfl, u5⟩
  have uu5 := uu4.trans u5
  have kk5 := kk4.up u5
  have g5_12 : w5.cell? ⟨w.heap.size, 12, none⟩ = some (.slice A12 x12.length c12) := kk5.cell 12
  by_cases q4 : ¬ (((shL shI).sz x12 : Nat) : Int) ≤ left - (shDisk.sz (x0, x1, x2) : Nat) - (shTop.sz (x3, x4, x5, x6) : Nat) - (shTop.sz (x7, x8, x9, x10) : Nat) - ((shL shSeat).sz x11 : Nat)
  · rw [szR_no (by omega)]
    go_wp2_with fail
    go_ret
    exact SzP.no (by rw [HS.out]; omega) uu5
  replace q4 := Decidable.of_not_not q4
  rw [szR_yes q4]
  go_wp2_with fail
  go_ret
  exact SzP.yes (by rw [HS.out]; omega) (by rw [HS.out] <;> omega) uu5

end Go.Proofs.Ytafabcabffeikaa
