/-
  Contracts of the laws' eq helpers, by genlaw.py
-/
import Derived.Test.YtpjcgglhlmifdaaGreatDoorRows
import Derived.Test.YtpjcgglhlmifdaaGreatDoorM1E
import Derived.Test.YtpjcgglhlmifdaaGreatDoorM1A
import Derived.StillTailTactics
namespace Go.Proofs.YtpjcgglhlmifdaaGreatDoor
open Go.RowKit
set_option linter.unusedSimpArgs false
set_option linter.unusedVariables false

set_option maxRecDepth 100000 in
set_option maxHeartbeats 1000000 in
theorem c_eqStringS (xs ys : List ByteArray) (A B : Option Addr) (c d : Nat) (w : World) (h : SRW shS w A c xs) (k : SRW shS w B d ys) :
    Calls Tryz.prog 87 #[.slice A xs.length c, .slice B ys.length d] w (EqP (xs = ys) w) := by
  have hlen := h.len_le
  have klen := k.len_le
  by_cases hl : xs.length = ys.length
  · have hb : ((xs.length : Int) != (ys.length : Int)) = false := by simp [hl]
    have HL := Lib.hid hl; clear hl
    go_enter Tryz.func87, Tryz.ntmps87
    go_wp2
    go_loopw [5] (fun i wr => ∃ k : Nat, k ≤ xs.length ∧ i = .int .i64 k ∧ Hid (xs.take k = ys.take k) ∧ Up w wr) (fun i _ => xs.length - (intOf i).toNat)
    case atStart => exact ⟨0, Nat.zero_le _, rfl, rfl, Up.refl _⟩
    case round =>
      obtain ⟨j, hj, rfl, HT, hu⟩ := hrel
      by_cases hlt : j < xs.length
      · have hlt' : j < ys.length := by rw [← HL.out]; exact hlt
        obtain ⟨g, off, rfl, _, _, hc, hb1⟩ := (h.up good_S hu).at_S hlt
        obtain ⟨g', off', rfl, _, _, hc', hb2⟩ := (k.up good_S hu).at_S hlt'
        by_cases he : xs[j] = ys[j]
        · have hx : (xs[j].toList == ys[j].toList) = true := by rw [str_beq]; simp [he]
          have HE := Lib.hid he; clear he
          go_wp2
          go_quiet (fail)
          go_wp2
          go_roundw
          case rel => exact ⟨j + 1, by omega, by go_num, take_snoc_eq HT.out hlt hlt' HE.out, hu.drewN _⟩
          case measure => simp [intOf]; omega
        · have hx : (xs[j].toList == ys[j].toList) = false := by rw [str_beq]; simp [he]
          have HE := Lib.hid (ne_of_at hlt hlt' he); clear he
          go_wp2
          go_quiet (fail)
          go_wp2
          go_ret
          exact EqP.f HE.out (hu.drewN _)
      · have HE := Lib.hid (take_all_eq HT.out (by omega) (by rw [← HL.out]; omega))
        go_wp2
        go_ret
        exact EqP.t HE.out hu
  · have hb : ((xs.length : Int) != (ys.length : Int)) = true := by rw [bne_iff_ne]; omega
    have HE := Lib.hid (ne_of_len hl); clear hl
    go_enter Tryz.func87, Tryz.ntmps87
    go_wp2
    go_ret
    exact EqP.f HE.out (Up.refl _)

set_option maxRecDepth 100000 in
set_option maxHeartbeats 1000000 in
theorem c_eqInt64S (xs ys : List Int) (A B : Option Addr) (c d : Nat) (w : World) (h : SRW shI w A c xs) (k : SRW shI w B d ys) :
    Calls Tryz.prog 26 #[.slice A xs.length c, .slice B ys.length d] w (EqP (xs = ys) w) := by
  have hlen := h.len_le
  have klen := k.len_le
  by_cases hl : xs.length = ys.length
  · have hb : ((xs.length : Int) != (ys.length : Int)) = false := by simp [hl]
    have HL := Lib.hid hl; clear hl
    go_enter Tryz.func26, Tryz.ntmps26
    go_wp2
    go_loopw [5] (fun i wr => ∃ k : Nat, k ≤ xs.length ∧ i = .int .i64 k ∧ Hid (xs.take k = ys.take k) ∧ Up w wr) (fun i _ => xs.length - (intOf i).toNat)
    case atStart => exact ⟨0, Nat.zero_le _, rfl, rfl, Up.refl _⟩
    case round =>
      obtain ⟨j, hj, rfl, HT, hu⟩ := hrel
      by_cases hlt : j < xs.length
      · have hlt' : j < ys.length := by rw [← HL.out]; exact hlt
        obtain ⟨g, off, rfl, _, _, hc, hb1⟩ := (h.up good_I hu).at_I hlt
        obtain ⟨g', off', rfl, _, _, hc', hb2⟩ := (k.up good_I hu).at_I hlt'
        by_cases he : xs[j] = ys[j]
        · have hx : (xs[j] != ys[j]) = false := by simp [he]
          have HE := Lib.hid he; clear he
          go_wp2
          go_quiet (fail)
          go_wp2
          go_roundw
          case rel => exact ⟨j + 1, by omega, by go_num, take_snoc_eq HT.out hlt hlt' HE.out, hu.drewN _⟩
          case measure => simp [intOf]; omega
        · have hx : (xs[j] != ys[j]) = true := by simp [he]
          have HE := Lib.hid (ne_of_at hlt hlt' he); clear he
          go_wp2
          go_quiet (fail)
          go_wp2
          go_ret
          exact EqP.f HE.out (hu.drewN _)
      · have HE := Lib.hid (take_all_eq HT.out (by omega) (by rw [← HL.out]; omega))
        go_wp2
        go_ret
        exact EqP.t HE.out hu
  · have hb : ((xs.length : Int) != (ys.length : Int)) = true := by rw [bne_iff_ne]; omega
    have HE := Lib.hid (ne_of_len hl); clear hl
    go_enter Tryz.func26, Tryz.ntmps26
    go_wp2
    go_ret
    exact EqP.f HE.out (Up.refl _)

set_option maxHeartbeats 1000000 in
theorem c_eqPage (v u : Value) (x y : TPage) (w : World) (h : AV shPage w v x) (k : AV shPage w u y) :
    Calls Tryz.prog 44 #[v, u] w (EqP (x = y) w) := by
  obtain ⟨cs, rfl, h⟩ := h
  obtain ⟨x0, x1, x2, x3⟩ := x
  have ho := openPage h
  try dsimp only at ho
  obtain ⟨A1, c1, A2, c2, A3, c3, rfl, b1, b2, b3⟩ := ho
  obtain ⟨ds, rfl, k⟩ := k
  obtain ⟨y0, y1, y2, y3⟩ := y
  have ko := openPage k
  try dsimp only at ko
  obtain ⟨B1, d1, B2, d2, B3, d3, rfl, e1, e2, e3⟩ := ko
  have kx0 : Bk ((w.alloc (.cells #[.bool x0, .slice A1 x1.length c1, .slice A2 x2.length c2, .slice A3 x3.length c3] 88)).alloc (.cells #[.bool y0, .slice B1 y1.length d1, .slice B2 y2.length d2, .slice B3 y3.length d3] 88)) w.heap.size 88 #[.bool x0, .slice A1 x1.length c1, .slice A2 x2.length c2, .slice A3 x3.length c3] := (Bk.new _ _ _).alloc _
  have ky0 : Bk ((w.alloc (.cells #[.bool x0, .slice A1 x1.length c1, .slice A2 x2.length c2, .slice A3 x3.length c3] 88)).alloc (.cells #[.bool y0, .slice B1 y1.length d1, .slice B2 y2.length d2, .slice B3 y3.length d3] 88)) (w.heap.size + 1) 88 #[.bool y0, .slice B1 y1.length d1, .slice B2 y2.length d2, .slice B3 y3.length d3] := by simpa using Bk.new (w.alloc (.cells #[.bool x0, .slice A1 x1.length c1, .slice A2 x2.length c2, .slice A3 x3.length c3] 88)) 88 #[.bool y0, .slice B1 y1.length d1, .slice B2 y2.length d2, .slice B3 y3.length d3]
  have uu0 : Up w ((w.alloc (.cells #[.bool x0, .slice A1 x1.length c1, .slice A2 x2.length c2, .slice A3 x3.length c3] 88)).alloc (.cells #[.bool y0, .slice B1 y1.length d1, .slice B2 y2.length d2, .slice B3 y3.length d3] 88)) := ((Up.refl _).alloc _).alloc _
  by_cases e_0 : ¬ x0 = y0
  · have hx : (x0 != y0) = true := by simp [e_0]
    have HE : Hid (¬ (x0, x1, x2, x3) = (y0, y1, y2, y3)) := by unfold Hid; intro hh; (try simp only [Prod.mk.injEq] at hh); exact e_0 (by simp [hh])
    clear e_0
    cases x0 <;> cases y0
    · simp at hx
    · clear hx
      go_enter Tryz.func44, Tryz.ntmps44
      go_wp2_with fail
      go_ret
      exact EqP.f HE.out uu0
    · clear hx
      go_enter Tryz.func44, Tryz.ntmps44
      go_wp2_with fail
      go_ret
      exact EqP.f HE.out uu0
    · simp at hx
  replace e_0 := Decidable.of_not_not e_0
  subst e_0
  go_enter Tryz.func44, Tryz.ntmps44
  go_wp2_with fail
  refine (c_eqStringS _ _ _ _ _ _ _ (b1.up good_S uu0) (e1.up good_S uu0)).mono ?_
  rintro r w1 ⟨bb, rfl, hbb, u1⟩
  have uu1 := uu0.trans u1
  have kx1 := kx0.up u1
  have ky1 := ky0.up u1
  clear u1
  rcases eqb_cases hbb with ⟨rfl, e_1⟩ | ⟨rfl, e_1⟩
  · clear hbb
    have HE : Hid (¬ (x0, x1, x2, x3) = (x0, y1, y2, y3)) := by unfold Hid; intro hh; (try simp only [Prod.mk.injEq] at hh); exact e_1 (by simp [hh])
    clear e_1
    go_wp2_with fail
    go_ret
    exact EqP.f HE.out uu1
  clear hbb
  subst e_1
  have gx1_2 : w1.cell? ⟨w.heap.size, 2, none⟩ = some (.slice A2 x2.length c2) := kx1.cell 2
  have gy1_2 : w1.cell? ⟨w.heap.size + 1, 2, none⟩ = some (.slice B2 y2.length d2) := ky1.cell 2
  have gx1_3 : w1.cell? ⟨w.heap.size, 3, none⟩ = some (.slice A3 x3.length c3) := kx1.cell 3
  have gy1_3 : w1.cell? ⟨w.heap.size + 1, 3, none⟩ = some (.slice B3 y3.length d3) := ky1.cell 3
  go_wp2_with fail
  refine (c_eqStringS _ _ _ _ _ _ _ (b2.up good_S uu1) (e2.up good_S uu1)).mono ?_
  rintro r w2 ⟨bb, rfl, hbb, u2⟩
  have uu2 := uu1.trans u2
  have kx2 := kx1.up u2
  have ky2 := ky1.up u2
  clear u2
  rcases eqb_cases hbb with ⟨rfl, e_2⟩ | ⟨rfl, e_2⟩
  · clear hbb
    have HE : Hid (¬ (x0, x1, x2, x3) = (x0, x1, y2, y3)) := by unfold Hid; intro hh; (try simp only [Prod.mk.injEq] at hh); exact e_2 (by simp [hh])
    clear e_2
    go_wp2_with fail
    go_ret
    exact EqP.f HE.out uu2
  clear hbb
  subst e_2
  have gx2_3 : w2.cell? ⟨w.heap.size, 3, none⟩ = some (.slice A3 x3.length c3) := kx2.cell 3
  have gy2_3 : w2.cell? ⟨w.heap.size + 1, 3, none⟩ = some (.slice B3 y3.length d3) := ky2.cell 3
  go_wp2_with fail
  refine (c_eqInt64S _ _ _ _ _ _ _ (b3.up good_I uu2) (e3.up good_I uu2)).mono ?_
  rintro r w3 ⟨bb, rfl, hbb, u3⟩
  have uu3 := uu2.trans u3
  have kx3 := kx2.up u3
  have ky3 := ky2.up u3
  clear u3
  rcases eqb_cases hbb with ⟨rfl, e_3⟩ | ⟨rfl, e_3⟩
  · clear hbb
    have HE : Hid (¬ (x0, x1, x2, x3) = (x0, x1, x2, y3)) := by unfold Hid; intro hh; (try simp only [Prod.mk.injEq] at hh); exact e_3 (by simp [hh])
    clear e_3
    go_wp2_with fail
    go_ret
    exact EqP.f HE.out uu3
  clear hbb
  subst e_3
  go_wp2_with fail
  go_ret
  exact EqP.t (by simp) uu3

set_option maxHeartbeats 1000000 in
theorem c_eqSlot (v u : Value) (x y : TSlot) (w : World) (h : AV shSlot w v x) (k : AV shSlot w u y) :
    Calls Tryz.prog 98 #[v, u] w (EqP (x = y) w) := by
  obtain ⟨cs, rfl, h⟩ := h
  obtain ⟨x0, ⟨x1, x2, x3, x4⟩⟩ := x
  have ho := openSlot h
  try dsimp only at ho
  obtain ⟨A2, c2, A3, c3, A4, c4, rfl, b0, b2, b3, b4⟩ := ho
  obtain ⟨ds, rfl, k⟩ := k
  obtain ⟨y0, ⟨y1, y2, y3, y4⟩⟩ := y
  have ko := openSlot k
  try dsimp only at ko
  obtain ⟨B2, d2, B3, d3, B4, d4, rfl, e0, e2, e3, e4⟩ := ko
  have kx0 : Bk ((w.alloc (.cells #[.int .i64 x0, .bool x1, .slice A2 x2.length c2, .slice A3 x3.length c3, .slice A4 x4.length c4] 116)).alloc (.cells #[.int .i64 y0, .bool y1, .slice B2 y2.length d2, .slice B3 y3.length d3, .slice B4 y4.length d4] 116)) w.heap.size 116 #[.int .i64 x0, .bool x1, .slice A2 x2.length c2, .slice A3 x3.length c3, .slice A4 x4.length c4] := (Bk.new _ _ _).alloc _
  have ky0 : Bk ((w.alloc (.cells #[.int .i64 x0, .bool x1, .slice A2 x2.length c2, .slice A3 x3.length c3, .slice A4 x4.length c4] 116)).alloc (.cells #[.int .i64 y0, .bool y1, .slice B2 y2.length d2, .slice B3 y3.length d3, .slice B4 y4.length d4] 116)) (w.heap.size + 1) 116 #[.int .i64 y0, .bool y1, .slice B2 y2.length d2, .slice B3 y3.length d3, .slice B4 y4.length d4] := by simpa using Bk.new (w.alloc (.cells #[.int .i64 x0, .bool x1, .slice A2 x2.length c2, .slice A3 x3.length c3, .slice A4 x4.length c4] 116)) 116 #[.int .i64 y0, .bool y1, .slice B2 y2.length d2, .slice B3 y3.length d3, .slice B4 y4.length d4]
  have uu0 : Up w ((w.alloc (.cells #[.int .i64 x0, .bool x1, .slice A2 x2.length c2, .slice A3 x3.length c3, .slice A4 x4.length c4] 116)).alloc (.cells #[.int .i64 y0, .bool y1, .slice B2 y2.length d2, .slice B3 y3.length d3, .slice B4 y4.length d4] 116)) := ((Up.refl _).alloc _).alloc _
  by_cases e_0 : ¬ x0 = y0
  · have hx : (x0 != y0) = true := by simp [e_0]
    have HE : Hid (¬ (x0, (x1, x2, x3, x4)) = (y0, (y1, y2, y3, y4))) := by unfold Hid; intro hh; (try simp only [Prod.mk.injEq] at hh); exact e_0 (by simp [hh])
    clear e_0
    go_enter Tryz.func98, Tryz.ntmps98
    go_wp2_with fail
    go_ret
    exact EqP.f HE.out uu0
  replace e_0 := Decidable.of_not_not e_0
  subst e_0
  go_enter Tryz.func98, Tryz.ntmps98
  go_wp2_with fail
  refine (c_eqPage _ _ (x1, x2, x3, x4) (y1, y2, y3, y4) _ ⟨_, rfl, mkPage (x := (x1, x2, x3, x4)) (b2.up good_S uu0) (b3.up good_S uu0) (b4.up good_I uu0)⟩ ⟨_, rfl, mkPage (x := (y1, y2, y3, y4)) (e2.up good_S uu0) (e3.up good_S uu0) (e4.up good_I uu0)⟩).mono ?_
  rintro r w1 ⟨bb, rfl, hbb, u1⟩
  have uu1 := uu0.trans u1
  have kx1 := kx0.up u1
  have ky1 := ky0.up u1
  clear u1
  rcases eqb_cases hbb with ⟨rfl, e_1⟩ | ⟨rfl, e_1⟩
  · clear hbb
    have HE : Hid (¬ (x0, (x1, x2, x3, x4)) = (x0, (y1, y2, y3, y4))) := by unfold Hid; intro hh; (try simp only [Prod.mk.injEq] at hh); exact e_1 (by simp [hh])
    clear e_1
    go_wp2_with fail
    go_ret
    exact EqP.f HE.out uu1
  clear hbb
  simp only [Prod.mk.injEq] at e_1
  obtain ⟨rfl, rfl, rfl, rfl⟩ := e_1
  go_wp2_with fail
  go_ret
  exact EqP.t (by simp) uu1

set_option maxRecDepth 100000 in
set_option maxHeartbeats 1000000 in
theorem c_eqSlotS (xs ys : List TSlot) (A B : Option Addr) (c d : Nat) (w : World) (h : SRW shSlot w A c xs) (k : SRW shSlot w B d ys) :
    Calls Tryz.prog 55 #[.slice A xs.length c, .slice B ys.length d] w (EqP (xs = ys) w) := by
  have hlen := h.len_le
  have klen := k.len_le
  by_cases hl : xs.length = ys.length
  · have hb : ((xs.length : Int) != (ys.length : Int)) = false := by simp [hl]
    have HL := Lib.hid hl; clear hl
    go_enter Tryz.func55, Tryz.ntmps55
    go_wp2
    go_loopw [5] (fun i wr => ∃ k : Nat, k ≤ xs.length ∧ i = .int .i64 k ∧ Hid (xs.take k = ys.take k) ∧ Up w wr) (fun i _ => xs.length - (intOf i).toNat)
    case atStart => exact ⟨0, Nat.zero_le _, rfl, rfl, Up.refl _⟩
    case round =>
      obtain ⟨j, hj, rfl, HT, hu⟩ := hrel
      by_cases hlt : j < xs.length
      · have hlt' : j < ys.length := by rw [← HL.out]; exact hlt
        obtain ⟨g, off, A2, c2, A3, c3, A4, c4, rfl, _, _, hc0, hc1, hc2, hc3, hc4, b0, b2, b3, b4, _⟩ := atSlot (h.up good_Slot hu) hlt
        obtain ⟨g', off', B2, d2, B3, d3, B4, d4, rfl, _, _, hd0, hd1, hd2, hd3, hd4, f0, f2, f3, f4, _⟩ := atSlot (k.up good_Slot hu) hlt'
        go_wp2_with fail
        go_still_tail 8, (by kernel_rfl)
        change wpList _ _ _ _ _ wr.drew
        go_wp2_with fail
        refine (c_eqSlot _ _ xs[j] ys[j] _ (AV.up good_Slot ⟨_, rfl, mkSlot (x := xs[j]) b0 b2 b3 b4⟩ ((Up.refl wr).drew)) (AV.up good_Slot ⟨_, rfl, mkSlot (x := ys[j]) f0 f2 f3 f4⟩ ((Up.refl wr).drew))).mono ?_
        rintro e w1 ⟨bb, rfl, hbb, hu1⟩
        rcases (eqb_cases hbb).symm with ⟨rfl, he⟩ | ⟨rfl, he⟩
        · clear hbb
          have HE := Lib.hid he; clear he
          go_wp2_with fail
          go_roundw
          case rel => exact ⟨j + 1, by omega, by go_num, take_snoc_eq HT.out hlt hlt' HE.out, hu.drew.trans hu1⟩
          case measure => simp [intOf]; omega
        · clear hbb
          have HE := Lib.hid (ne_of_at hlt hlt' he); clear he
          go_wp2_with fail
          go_ret
          exact EqP.f HE.out (hu.drew.trans hu1)
      · have HE := Lib.hid (take_all_eq HT.out (by omega) (by rw [← HL.out]; omega))
        go_wp2
        go_ret
        exact EqP.t HE.out hu
  · have hb : ((xs.length : Int) != (ys.length : Int)) = true := by rw [bne_iff_ne]; omega
    have HE := Lib.hid (ne_of_len hl); clear hl
    go_enter Tryz.func55, Tryz.ntmps55
    go_wp2
    go_ret
    exact EqP.f HE.out (Up.refl _)

set_option maxHeartbeats 1000000 in
theorem c_eqBtree (v u : Value) (x y : TBtree) (w : World) (h : AV shBtree w v x) (k : AV shBtree w u y) :
    Calls Tryz.prog 15 #[v, u] w (EqP (x = y) w) := by
  obtain ⟨cs, rfl, h⟩ := h
  obtain ⟨x0, x1⟩ := x
  have ho := openBtree h
  try dsimp only at ho
  obtain ⟨A1, c1, rfl, b0, b1⟩ := ho
  obtain ⟨ds, rfl, k⟩ := k
  obtain ⟨y0, y1⟩ := y
  have ko := openBtree k
  try dsimp only at ko
  obtain ⟨B1, d1, rfl, e0, e1⟩ := ko
  have kx0 : Bk ((w.alloc (.cells #[.int .i64 x0, .slice A1 x1.length c1] 30)).alloc (.cells #[.int .i64 y0, .slice B1 y1.length d1] 30)) w.heap.size 30 #[.int .i64 x0, .slice A1 x1.length c1] := (Bk.new _ _ _).alloc _
  have ky0 : Bk ((w.alloc (.cells #[.int .i64 x0, .slice A1 x1.length c1] 30)).alloc (.cells #[.int .i64 y0, .slice B1 y1.length d1] 30)) (w.heap.size + 1) 30 #[.int .i64 y0, .slice B1 y1.length d1] := by simpa using Bk.new (w.alloc (.cells #[.int .i64 x0, .slice A1 x1.length c1] 30)) 30 #[.int .i64 y0, .slice B1 y1.length d1]
  have uu0 : Up w ((w.alloc (.cells #[.int .i64 x0, .slice A1 x1.length c1] 30)).alloc (.cells #[.int .i64 y0, .slice B1 y1.length d1] 30)) := ((Up.refl _).alloc _).alloc _
  by_cases e_0 : ¬ x0 = y0
  · have hx : (x0 != y0) = true := by simp [e_0]
    have HE : Hid (¬ (x0, x1) = (y0, y1)) := by unfold Hid; intro hh; (try simp only [Prod.mk.injEq] at hh); exact e_0 (by simp [hh])
    clear e_0
    go_enter Tryz.func15, Tryz.ntmps15
    go_wp2_with fail
    go_ret
    exact EqP.f HE.out uu0
  replace e_0 := Decidable.of_not_not e_0
  subst e_0
  go_enter Tryz.func15, Tryz.ntmps15
  go_wp2_with fail
  refine (c_eqSlotS _ _ _ _ _ _ _ (b1.up good_Slot uu0) (e1.up good_Slot uu0)).mono ?_
  rintro r w1 ⟨bb, rfl, hbb, u1⟩
  have uu1 := uu0.trans u1
  have kx1 := kx0.up u1
  have ky1 := ky0.up u1
  clear u1
  rcases eqb_cases hbb with ⟨rfl, e_1⟩ | ⟨rfl, e_1⟩
  · clear hbb
    have HE : Hid (¬ (x0, x1) = (x0, y1)) := by unfold Hid; intro hh; (try simp only [Prod.mk.injEq] at hh); exact e_1 (by simp [hh])
    clear e_1
    go_wp2_with fail
    go_ret
    exact EqP.f HE.out uu1
  clear hbb
  subst e_1
  go_wp2_with fail
  go_ret
  exact EqP.t (by simp) uu1

end Go.Proofs.YtpjcgglhlmifdaaGreatDoor
