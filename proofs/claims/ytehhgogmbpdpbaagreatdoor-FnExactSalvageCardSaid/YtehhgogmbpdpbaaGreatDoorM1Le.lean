/-
  Contracts of the laws' eq helpers, by genlaw.py
-/
import Derived.Test.YtehhgogmbpdpbaaGreatDoorRows
import Derived.Test.YtehhgogmbpdpbaaGreatDoorM1E
import Derived.Test.YtehhgogmbpdpbaaGreatDoorM1A
import Derived.StillTailTactics
namespace Go.Proofs.YtehhgogmbpdpbaaGreatDoor
open Go.RowKit
set_option linter.unusedSimpArgs false
set_option linter.unusedVariables false

set_option maxRecDepth 100000 in
set_option maxHeartbeats 1000000 in
theorem c_eqStringS (xs ys : List ByteArray) (A B : Option Addr) (c d : Nat) (w : World) (h : SRW shS w A c xs) (k : SRW shS w B d ys) :
    Calls Tryz.prog 83 #[.slice A xs.length c, .slice B ys.length d] w (EqP (xs = ys) w) := by
  have hlen := h.len_le
  have klen := k.len_le
  by_cases hl : xs.length = ys.length
  · have hb : ((xs.length : Int) != (ys.length : Int)) = false := by simp [hl]
    have HL := Lib.hid hl; clear hl
    go_enter Tryz.func83, Tryz.ntmps83
    go_wp2
    go_loopw [5] (fun i wr => ∃ k : Nat, k ≤ xs.length ∧ i = .int .i64 k ∧ Hid (xs.take k = ys.take k) ∧ Up w wr) (fun i _ => xs.length - (intOf i).toNat)
    case atStart => exact ⟨0, Nat.zero_le _, rfl, rfl, Up.refl _⟩
    case round =>
      obtain ⟨j, hj, rfl, HT, hu⟩ := hrel
      by_cases hlt : j < xs.length
      · have hlt' : j < ys.length := by rw [← HL.out]; exact hlt
        obtain ⟨g, off, rfl, _, _, hc, hb1⟩ := (h.up good_S hu).at_S hlt
        obtain ⟨g', off', rfl, _, _, hc', hb2⟩ := (k.up good_S hu).at_S hlt'
        by_cases he : xs[j] = ys[j]
        · have hx : (xs[j].toList == ys[j].toList) = true := by rw [str_beq]; simp [he]
          have HE := Lib.hid he; clear he
          go_wp2
          go_quiet (fail)
          go_wp2
          go_roundw
          case rel => exact ⟨j + 1, by omega, by go_num, take_snoc_eq HT.out hlt hlt' HE.out, hu.drewN _⟩
          case measure => simp [intOf]; omega
        · have hx : (xs[j].toList == ys[j].toList) = false := by rw [str_beq]; simp [he]
          have HE := Lib.hid (ne_of_at hlt hlt' he); clear he
          go_wp2
          go_quiet (fail)
          go_wp2
          go_ret
          exact EqP.f HE.out (hu.drewN _)
      · have HE := Lib.hid (take_all_eq HT.out (by omega) (by rw [← HL.out]; omega))
        go_wp2
        go_ret
        exact EqP.t HE.out hu
  · have hb : ((xs.length : Int) != (ys.length : Int)) = true := by rw [bne_iff_ne]; omega
    have HE := Lib.hid (ne_of_len hl); clear hl
    go_enter Tryz.func83, Tryz.ntmps83
    go_wp2
    go_ret
    exact EqP.f HE.out (Up.refl _)

set_option maxRecDepth 100000 in
set_option maxHeartbeats 1000000 in
theorem c_eqInt64S (xs ys : List Int) (A B : Option Addr) (c d : Nat) (w : World) (h : SRW shI w A c xs) (k : SRW shI w B d ys) :
    Calls Tryz.prog 188 #[.slice A xs.length c, .slice B ys.length d] w (EqP (xs = ys) w) := by
  have hlen := h.len_le
  have klen := k.len_le
  by_cases hl : xs.length = ys.length
  · have hb : ((xs.length : Int) != (ys.length : Int)) = false := by simp [hl]
    have HL := Lib.hid hl; clear hl
    go_enter Tryz.func188, Tryz.ntmps188
    go_wp2
    go_loopw [5] (fun i wr => ∃ k : Nat, k ≤ xs.length ∧ i = .int .i64 k ∧ Hid (xs.take k = ys.take k) ∧ Up w wr) (fun i _ => xs.length - (intOf i).toNat)
    case atStart => exact ⟨0, Nat.zero_le _, rfl, rfl, Up.refl _⟩
    case round =>
      obtain ⟨j, hj, rfl, HT, hu⟩ := hrel
      by_cases hlt : j < xs.length
      · have hlt' : j < ys.length := by rw [← HL.out]; exact hlt
        obtain ⟨g, off, rfl, _, _, hc, hb1⟩ := (h.up good_I hu).at_I hlt
        obtain ⟨g', off', rfl, _, _, hc', hb2⟩ := (k.up good_I hu).at_I hlt'
        by_cases he : xs[j] = ys[j]
        · have hx : (xs[j] != ys[j]) = false := by simp [he]
          have HE := Lib.hid he; clear he
          go_wp2
          go_quiet (fail)
          go_wp2
          go_roundw
          case rel => exact ⟨j + 1, by omega, by go_num, take_snoc_eq HT.out hlt hlt' HE.out, hu.drewN _⟩
          case measure => simp [intOf]; omega
        · have hx : (xs[j] != ys[j]) = true := by simp [he]
          have HE := Lib.hid (ne_of_at hlt hlt' he); clear he
          go_wp2
          go_quiet (fail)
          go_wp2
          go_ret
          exact EqP.f HE.out (hu.drewN _)
      · have HE := Lib.hid (take_all_eq HT.out (by omega) (by rw [← HL.out]; omega))
        go_wp2
        go_ret
        exact EqP.t HE.out hu
  · have hb : ((xs.length : Int) != (ys.length : Int)) = true := by rw [bne_iff_ne]; omega
    have HE := Lib.hid (ne_of_len hl); clear hl
    go_enter Tryz.func188, Tryz.ntmps188
    go_wp2
    go_ret
    exact EqP.f HE.out (Up.refl _)







set_option maxHeartbeats 1000000 in
theorem c_eqPage (v u : Value) (x y : TPage) (w : World) (h : AV shPage w v x) (k : AV shPage w u y) :
    Calls Tryz.prog 147 #[v, u] w (EqP (x = y) w) := by
  obtain ⟨cs, rfl, h⟩ := h
  obtain ⟨x0, x1, x2, x3⟩ := x
  have ho := openPage h
  try dsimp only at ho
  obtain ⟨A1, c1, A2, c2, A3, c3, rfl, b1, b2, b3⟩ := ho
  obtain ⟨ds, rfl, k⟩ := k
  obtain ⟨y0, y1, y2, y3⟩ := y
  have ko := openPage k
  try dsimp only at ko
  obtain ⟨B1, d1, B2, d2, B3, d3, rfl, e1, e2, e3⟩ := ko
  have kx0 : Bk ((w.alloc (.cells #[.bool x0, .slice A1 x1.length c1, .slice A2 x2.length c2, .slice A3 x3.length c3] 85)).alloc (.cells #[.bool y0, .slice B1 y1.length d1, .slice B2 y2.length d2, .slice B3 y3.length d3] 85)) w.heap.size 85 #[.bool x0, .slice A1 x1.length c1, .slice A2 x2.length c2, .slice A3 x3.length c3] := (Bk.new _ _ _).alloc _
  have ky0 : Bk ((w.alloc (.cells #[.bool x0, .slice A1 x1.length c1, .slice A2 x2.length c2, .slice A3 x3.length c3] 85)).alloc (.cells #[.bool y0, .slice B1 y1.length d1, .slice B2 y2.length d2, .slice B3 y3.length d3] 85)) (w.heap.size + 1) 85 #[.bool y0, .slice B1 y1.length d1, .slice B2 y2.length d2, .slice B3 y3.length d3] := by simpa using Bk.new (w.alloc (.cells #[.bool x0, .slice A1 x1.length c1, .slice A2 x2.length c2, .slice A3 x3.length c3] 85)) 85 #[.bool y0, .slice B1 y1.length d1, .slice B2 y2.length d2, .slice B3 y3.length d3]
  have uu0 : Up w ((w.alloc (.cells #[.bool x0, .slice A1 x1.length c1, .slice A2 x2.length c2, .slice A3 x3.length c3] 85)).alloc (.cells #[.bool y0, .slice B1 y1.length d1, .slice B2 y2.length d2, .slice B3 y3.length d3] 85)) := ((Up.refl _).alloc _).alloc _
  by_cases e_0 : ¬ x0 = y0
  · have hx : (x0 != y0) = true := by simp [e_0]
    have HE : Hid (¬ (x0, x1, x2, x3) = (y0, y1, y2, y3)) := by unfold Hid; intro hh; (try simp only [Prod.mk.injEq] at hh); exact e_0 (by simp [hh])
    clear e_0
    cases x0 <;> cases y0
    · simp at hx
    · clear hx
      go_enter Tryz.func147, Tryz.ntmps147
      go_wp2_with fail
      go_ret
      exact EqP.f HE.out uu0
    · clear hx
      go_enter Tryz.func147, Tryz.ntmps147
      go_wp2_with fail
      go_ret
      exact EqP.f HE.out uu0
    · simp at hx
  replace e_0 := Decidable.of_not_not e_0
  subst e_0
  go_enter Tryz.func147, Tryz.ntmps147
  go_wp2_with fail
  refine (c_eqStringS _ _ _ _ _ _ _ (b1.up good_S uu0) (e1.up good_S uu0)).mono ?_
  rintro r w1 ⟨bb, rfl, hbb, u1⟩
  have uu1 := uu0.trans u1
  have kx1 := kx0.up u1
  have ky1 := ky0.up u1
  clear u1
  rcases eqb_cases hbb with ⟨rfl, e_1⟩ | ⟨rfl, e_1⟩
  · clear hbb
    have HE : Hid (¬ (x0, x1, x2, x3) = (x0, y1, y2, y3)) := by unfold Hid; intro hh; (try simp only [Prod.mk.injEq] at hh); exact e_1 (by simp [hh])
    clear e_1
    go_wp2_with fail
    go_ret
    exact EqP.f HE.out uu1
  clear hbb
  subst e_1
  have gx1_2 : w1.cell? ⟨w.heap.size, 2, none⟩ = some (.slice A2 x2.length c2) := kx1.cell 2
  have gy1_2 : w1.cell? ⟨w.heap.size + 1, 2, none⟩ = some (.slice B2 y2.length d2) := ky1.cell 2
  have gx1_3 : w1.cell? ⟨w.heap.size, 3, none⟩ = some (.slice A3 x3.length c3) := kx1.cell 3
  have gy1_3 : w1.cell? ⟨w.heap.size + 1, 3, none⟩ = some (.slice B3 y3.length d3) := ky1.cell 3
  go_wp2_with fail
  refine (c_eqStringS _ _ _ _ _ _ _ (b2.up good_S uu1) (e2.up good_S uu1)).mono ?_
  rintro r w2 ⟨bb, rfl, hbb, u2⟩
  have uu2 := uu1.trans u2
  have kx2 := kx1.up u2
  have ky2 := ky1.up u2
  clear u2
  rcases eqb_cases hbb with ⟨rfl, e_2⟩ | ⟨rfl, e_2⟩
  · clear hbb
    have HE : Hid (¬ (x0, x1, x2, x3) = (x0, x1, y2, y3)) := by unfold Hid; intro hh; (try simp only [Prod.mk.injEq] at hh); exact e_2 (by simp [hh])
    clear e_2
    go_wp2_with fail
    go_ret
    exact EqP.f HE.out uu2
  clear hbb
  subst e_2
  have gx2_3 : w2.cell? ⟨w.heap.size, 3, none⟩ = some (.slice A3 x3.length c3) := kx2.cell 3
  have gy2_3 : w2.cell? ⟨w.heap.size + 1, 3, none⟩ = some (.slice B3 y3.length d3) := ky2.cell 3
  go_wp2_with fail
  refine (c_eqInt64S _ _ _ _ _ _ _ (b3.up good_I uu2) (e3.up good_I uu2)).mono ?_
  rintro r w3 ⟨bb, rfl, hbb, u3⟩
  have uu3 := uu2.trans u3
  have kx3 := kx2.up u3
  have ky3 := ky2.up u3
  clear u3
  rcases eqb_cases hbb with ⟨rfl, e_3⟩ | ⟨rfl, e_3⟩
  · clear hbb
    have HE : Hid (¬ (x0, x1, x2, x3) = (x0, x1, x2, y3)) := by unfold Hid; intro hh; (try simp only [Prod.mk.injEq] at hh); exact e_3 (by simp [hh])
    clear e_3
    go_wp2_with fail
    go_ret
    exact EqP.f HE.out uu3
  clear hbb
  subst e_3
  go_wp2_with fail
  go_ret
  exact EqP.t (by simp) uu3

set_option maxHeartbeats 1000000 in
theorem c_eqSlot (v u : Value) (x y : TSlot) (w : World) (h : AV shSlot w v x) (k : AV shSlot w u y) :
    Calls Tryz.prog 98 #[v, u] w (EqP (x = y) w) := by
  obtain ⟨cs, rfl, h⟩ := h
  obtain ⟨x0, ⟨x1, x2, x3, x4⟩⟩ := x
  have ho := openSlot h
  try dsimp only at ho
  obtain ⟨A2, c2, A3, c3, A4, c4, rfl, b0, b2, b3, b4⟩ := ho
  obtain ⟨ds, rfl, k⟩ := k
  obtain ⟨y0, ⟨y1, y2, y3, y4⟩⟩ := y
  have ko := openSlot k
  try dsimp only at ko
  obtain ⟨B2, d2, B3, d3, B4, d4, rfl, e0, e2, e3, e4⟩ := ko
  have kx0 : Bk ((w.alloc (.cells #[.int .i64 x0, .bool x1, .slice A2 x2.length c2, .slice A3 x3.length c3, .slice A4 x4.length c4] 87)).alloc (.cells #[.int .i64 y0, .bool y1, .slice B2 y2.length d2, .slice B3 y3.length d3, .slice B4 y4.length d4] 87)) w.heap.size 87 #[.int .i64 x0, .bool x1, .slice A2 x2.length c2, .slice A3 x3.length c3, .slice A4 x4.length c4] := (Bk.new _ _ _).alloc _
  have ky0 : Bk ((w.alloc (.cells #[.int .i64 x0, .bool x1, .slice A2 x2.length c2, .slice A3 x3.length c3, .slice A4 x4.length c4] 87)).alloc (.cells #[.int .i64 y0, .bool y1, .slice B2 y2.length d2, .slice B3 y3.length d3, .slice B4 y4.length d4] 87)) (w.heap.size + 1) 87 #[.int .i64 y0, .bool y1, .slice B2 y2.length d2, .slice B3 y3.length d3, .slice B4 y4.length d4] := by simpa using Bk.new (w.alloc (.cells #[.int .i64 x0, .bool x1, .slice A2 x2.length c2, .slice A3 x3.length c3, .slice A4 x4.length c4] 87)) 87 #[.int .i64 y0, .bool y1, .slice B2 y2.length d2, .slice B3 y3.length d3, .slice B4 y4.length d4]
  have uu0 : Up w ((w.alloc (.cells #[.int .i64 x0, .bool x1, .slice A2 x2.length c2, .slice A3 x3.length c3, .slice A4 x4.length c4] 87)).alloc (.cells #[.int .i64 y0, .bool y1, .slice B2 y2.length d2, .slice B3 y3.length d3, .slice B4 y4.length d4] 87)) := ((Up.refl _).alloc _).alloc _
  by_cases e_0 : ¬ x0 = y0
  · have hx : (x0 != y0) = true := by simp [e_0]
    have HE : Hid (¬ (x0, (x1, x2, x3, x4)) = (y0, (y1, y2, y3, y4))) := by unfold Hid; intro hh; (try simp only [Prod.mk.injEq] at hh); exact e_0 (by simp [hh])
    clear e_0
    go_enter Tryz.func98, Tryz.ntmps98
    go_wp2_with fail
    go_ret
    exact EqP.f HE.out uu0
  replace e_0 := Decidable.of_not_not e_0
  subst e_0
  go_enter Tryz.func98, Tryz.ntmps98
  go_wp2_with fail
  refine (c_eqPage _ _ (x1, x2, x3, x4) (y1, y2, y3, y4) _ ⟨_, rfl, mkPage (x := (x1, x2, x3, x4)) (b2.up good_S uu0) (b3.up good_S uu0) (b4.up good_I uu0)⟩ ⟨_, rfl, mkPage (x := (y1, y2, y3, y4)) (e2.up good_S uu0) (e3.up good_S uu0) (e4.up good_I uu0)⟩).mono ?_
  rintro r w1 ⟨bb, rfl, hbb, u1⟩
  have uu1 := uu0.trans u1
  have kx1 := kx0.up u1
  have ky1 := ky0.up u1
  clear u1
  rcases eqb_cases hbb with ⟨rfl, e_1⟩ | ⟨rfl, e_1⟩
  · clear hbb
    have HE : Hid (¬ (x0, (x1, x2, x3, x4)) = (x0, (y1, y2, y3, y4))) := by unfold Hid; intro hh; (try simp only [Prod.mk.injEq] at hh); exact e_1 (by simp [hh])
    clear e_1
    go_wp2_with fail
    go_ret
    exact EqP.f HE.out uu1
  clear hbb
  simp only [Prod.mk.injEq] at e_1
  obtain ⟨rfl, rfl, rfl, rfl⟩ := e_1
  go_wp2_with fail
  go_ret
  exact EqP.t (by simp) uu1

set_option maxRecDepth 100000 in
set_option maxHeartbeats 1000000 in
theorem c_eqSlotS (xs ys : List TSlot) (A B : Option Addr) (c d : Nat) (w : World) (h : SRW shSlot w A c xs) (k : SRW shSlot w B d ys) :
    Calls Tryz.prog 55 #[.slice A xs.length c, .slice B ys.length d] w (EqP (xs = ys) w) := by
  have hlen := h.len_le
  have klen := k.len_le
  by_cases hl : xs.length = ys.length
  · have hb : ((xs.length : Int) != (ys.length : Int)) = false := by simp [hl]
    have HL := Lib.hid hl; clear hl
    go_enter Tryz.func55, Tryz.ntmps55
    go_wp2
    go_loopw [5] (fun i wr => ∃ k : Nat, k ≤ xs.length ∧ i = .int .i64 k ∧ Hid (xs.take k = ys.take k) ∧ Up w wr) (fun i _ => xs.length - (intOf i).toNat)
    case atStart => exact ⟨0, Nat.zero_le _, rfl, rfl, Up.refl _⟩
    case round =>
      obtain ⟨j, hj, rfl, HT, hu⟩ := hrel
      by_cases hlt : j < xs.length
      · have hlt' : j < ys.length := by rw [← HL.out]; exact hlt
        obtain ⟨g, off, A2, c2, A3, c3, A4, c4, rfl, _, _, hc0, hc1, hc2, hc3, hc4, b0, b2, b3, b4, _⟩ := atSlot (h.up good_Slot hu) hlt
        obtain ⟨g', off', B2, d2, B3, d3, B4, d4, rfl, _, _, hd0, hd1, hd2, hd3, hd4, f0, f2, f3, f4, _⟩ := atSlot (k.up good_Slot hu) hlt'
        go_wp2_with fail
        go_still_tail 8, (by kernel_rfl)
        change wpList _ _ _ _ _ wr.drew
        go_wp2_with fail
        refine (c_eqSlot _ _ xs[j] ys[j] _ (AV.up good_Slot ⟨_, rfl, mkSlot (x := xs[j]) b0 b2 b3 b4⟩ ((Up.refl wr).drew)) (AV.up good_Slot ⟨_, rfl, mkSlot (x := ys[j]) f0 f2 f3 f4⟩ ((Up.refl wr).drew))).mono ?_
        rintro e w1 ⟨bb, rfl, hbb, hu1⟩
        rcases (eqb_cases hbb).symm with ⟨rfl, he⟩ | ⟨rfl, he⟩
        · clear hbb
          have HE := Lib.hid he; clear he
          go_wp2_with fail
          go_roundw
          case rel => exact ⟨j + 1, by omega, by go_num, take_snoc_eq HT.out hlt hlt' HE.out, hu.drew.trans hu1⟩
          case measure => simp [intOf]; omega
        · clear hbb
          have HE := Lib.hid (ne_of_at hlt hlt' he); clear he
          go_wp2_with fail
          go_ret
          exact EqP.f HE.out (hu.drew.trans hu1)
      · have HE := Lib.hid (take_all_eq HT.out (by omega) (by rw [← HL.out]; omega))
        go_wp2
        go_ret
        exact EqP.t HE.out hu
  · have hb : ((xs.length : Int) != (ys.length : Int)) = true := by rw [bne_iff_ne]; omega
    have HE := Lib.hid (ne_of_len hl); clear hl
    go_enter Tryz.func55, Tryz.ntmps55
    go_wp2
    go_ret
    exact EqP.f HE.out (Up.refl _)

set_option maxHeartbeats 1000000 in
theorem c_eqBtree (v u : Value) (x y : TBtree) (w : World) (h : AV shBtree w v x) (k : AV shBtree w u y) :
    Calls Tryz.prog 24 #[v, u] w (EqP (x = y) w) := by
  obtain ⟨cs, rfl, h⟩ := h
  obtain ⟨x0, x1⟩ := x
  have ho := openBtree h
  try dsimp only at ho
  obtain ⟨A1, c1, rfl, b0, b1⟩ := ho
  obtain ⟨ds, rfl, k⟩ := k
  obtain ⟨y0, y1⟩ := y
  have ko := openBtree k
  try dsimp only at ko
  obtain ⟨B1, d1, rfl, e0, e1⟩ := ko
  have kx0 : Bk ((w.alloc (.cells #[.int .i64 x0, .slice A1 x1.length c1] 53)).alloc (.cells #[.int .i64 y0, .slice B1 y1.length d1] 53)) w.heap.size 53 #[.int .i64 x0, .slice A1 x1.length c1] := (Bk.new _ _ _).alloc _
  have ky0 : Bk ((w.alloc (.cells #[.int .i64 x0, .slice A1 x1.length c1] 53)).alloc (.cells #[.int .i64 y0, .slice B1 y1.length d1] 53)) (w.heap.size + 1) 53 #[.int .i64 y0, .slice B1 y1.length d1] := by simpa using Bk.new (w.alloc (.cells #[.int .i64 x0, .slice A1 x1.length c1] 53)) 53 #[.int .i64 y0, .slice B1 y1.length d1]
  have uu0 : Up w ((w.alloc (.cells #[.int .i64 x0, .slice A1 x1.length c1] 53)).alloc (.cells #[.int .i64 y0, .slice B1 y1.length d1] 53)) := ((Up.refl _).alloc _).alloc _
  by_cases e_0 : ¬ x0 = y0
  · have hx : (x0 != y0) = true := by simp [e_0]
    have HE : Hid (¬ (x0, x1) = (y0, y1)) := by unfold Hid; intro hh; (try simp only [Prod.mk.injEq] at hh); exact e_0 (by simp [hh])
    clear e_0
    go_enter Tryz.func24, Tryz.ntmps24
    go_wp2_with fail
    go_ret
    exact EqP.f HE.out uu0
  replace e_0 := Decidable.of_not_not e_0
  subst e_0
  go_enter Tryz.func24, Tryz.ntmps24
  go_wp2_with fail
  refine (c_eqSlotS _ _ _ _ _ _ _ (b1.up good_Slot uu0) (e1.up good_Slot uu0)).mono ?_
  rintro r w1 ⟨bb, rfl, hbb, u1⟩
  have uu1 := uu0.trans u1
  have kx1 := kx0.up u1
  have ky1 := ky0.up u1
  clear u1
  rcases eqb_cases hbb with ⟨rfl, e_1⟩ | ⟨rfl, e_1⟩
  · clear hbb
    have HE : Hid (¬ (x0, x1) = (x0, y1)) := by unfold Hid; intro hh; (try simp only [Prod.mk.injEq] at hh); exact e_1 (by simp [hh])
    clear e_1
    go_wp2_with fail
    go_ret
    exact EqP.f HE.out uu1
  clear hbb
  subst e_1
  go_wp2_with fail
  go_ret
  exact EqP.t (by simp) uu1


set_option maxHeartbeats 1000000 in
theorem c_eqNode (v u : Value) (x y : TNode) (w : World) (h : AV shNode w v x) (k : AV shNode w u y) :
    Calls Tryz.prog 84 #[v, u] w (EqP (x = y) w) := by
  obtain ⟨cs, rfl, h⟩ := h
  obtain ⟨x0, x1, x2⟩ := x
  have ho := openNode h
  try dsimp only at ho
  obtain ⟨A1, c1, rfl, b0, b1, b2⟩ := ho
  obtain ⟨ds, rfl, k⟩ := k
  obtain ⟨y0, y1, y2⟩ := y
  have ko := openNode k
  try dsimp only at ko
  obtain ⟨B1, d1, rfl, e0, e1, e2⟩ := ko
  have kx0 : Bk ((w.alloc (.cells #[.string x0, .slice A1 x1.length c1, .string x2] 119)).alloc (.cells #[.string y0, .slice B1 y1.length d1, .string y2] 119)) w.heap.size 119 #[.string x0, .slice A1 x1.length c1, .string x2] := (Bk.new _ _ _).alloc _
  have ky0 : Bk ((w.alloc (.cells #[.string x0, .slice A1 x1.length c1, .string x2] 119)).alloc (.cells #[.string y0, .slice B1 y1.length d1, .string y2] 119)) (w.heap.size + 1) 119 #[.string y0, .slice B1 y1.length d1, .string y2] := by simpa using Bk.new (w.alloc (.cells #[.string x0, .slice A1 x1.length c1, .string x2] 119)) 119 #[.string y0, .slice B1 y1.length d1, .string y2]
  have uu0 : Up w ((w.alloc (.cells #[.string x0, .slice A1 x1.length c1, .string x2] 119)).alloc (.cells #[.string y0, .slice B1 y1.length d1, .string y2] 119)) := ((Up.refl _).alloc _).alloc _
  by_cases e_0 : ¬ x0 = y0
  · have hx : (x0.toList == y0.toList) = false := by rw [str_beq]; simp [e_0]
    have HE : Hid (¬ (x0, x1, x2) = (y0, y1, y2)) := by unfold Hid; intro hh; (try simp only [Prod.mk.injEq] at hh); exact e_0 (by simp [hh])
    clear e_0
    go_enter Tryz.func84, Tryz.ntmps84
    go_wp2_with fail
    go_ret
    exact EqP.f HE.out uu0
  replace e_0 := Decidable.of_not_not e_0
  subst e_0
  go_enter Tryz.func84, Tryz.ntmps84
  go_wp2_with fail
  refine (c_eqStringS _ _ _ _ _ _ _ (b1.up good_S uu0) (e1.up good_S uu0)).mono ?_
  rintro r w1 ⟨bb, rfl, hbb, u1⟩
  have uu1 := uu0.trans u1
  have kx1 := kx0.up u1
  have ky1 := ky0.up u1
  clear u1
  rcases eqb_cases hbb with ⟨rfl, e_1⟩ | ⟨rfl, e_1⟩
  · clear hbb
    have HE : Hid (¬ (x0, x1, x2) = (x0, y1, y2)) := by unfold Hid; intro hh; (try simp only [Prod.mk.injEq] at hh); exact e_1 (by simp [hh])
    clear e_1
    go_wp2_with fail
    go_ret
    exact EqP.f HE.out uu1
  clear hbb
  subst e_1
  have gx1_2 : w1.cell? ⟨w.heap.size, 2, none⟩ = some (.string x2) := kx1.cell 2
  have gy1_2 : w1.cell? ⟨w.heap.size + 1, 2, none⟩ = some (.string y2) := ky1.cell 2
  by_cases e_2 : ¬ x2 = y2
  · have hx : (x2.toList == y2.toList) = false := by rw [str_beq]; simp [e_2]
    have HE : Hid (¬ (x0, x1, x2) = (x0, x1, y2)) := by unfold Hid; intro hh; (try simp only [Prod.mk.injEq] at hh); exact e_2 (by simp [hh])
    clear e_2
    go_wp2_with fail
    go_ret
    exact EqP.f HE.out uu1
  replace e_2 := Decidable.of_not_not e_2
  subst e_2
  go_wp2_with fail
  go_ret
  exact EqP.t (by simp) uu1

set_option maxRecDepth 100000 in
set_option maxHeartbeats 1000000 in
theorem c_eqNodeS (xs ys : List TNode) (A B : Option Addr) (c d : Nat) (w : World) (h : SRW shNode w A c xs) (k : SRW shNode w B d ys) :
    Calls Tryz.prog 40 #[.slice A xs.length c, .slice B ys.length d] w (EqP (xs = ys) w) := by
  have hlen := h.len_le
  have klen := k.len_le
  by_cases hl : xs.length = ys.length
  · have hb : ((xs.length : Int) != (ys.length : Int)) = false := by simp [hl]
    have HL := Lib.hid hl; clear hl
    go_enter Tryz.func40, Tryz.ntmps40
    go_wp2
    go_loopw [5] (fun i wr => ∃ k : Nat, k ≤ xs.length ∧ i = .int .i64 k ∧ Hid (xs.take k = ys.take k) ∧ Up w wr) (fun i _ => xs.length - (intOf i).toNat)
    case atStart => exact ⟨0, Nat.zero_le _, rfl, rfl, Up.refl _⟩
    case round =>
      obtain ⟨j, hj, rfl, HT, hu⟩ := hrel
      by_cases hlt : j < xs.length
      · have hlt' : j < ys.length := by rw [← HL.out]; exact hlt
        obtain ⟨g, off, A1, c1, rfl, _, _, hc0, hc1, hc2, b0, b1, b2, _⟩ := atNode (h.up good_Node hu) hlt
        obtain ⟨g', off', B1, d1, rfl, _, _, hd0, hd1, hd2, f0, f1, f2, _⟩ := atNode (k.up good_Node hu) hlt'
        go_wp2_with fail
        go_still_tail 8, (by kernel_rfl)
        change wpList _ _ _ _ _ wr.drew
        go_wp2_with fail
        refine (c_eqNode _ _ xs[j] ys[j] _ (AV.up good_Node ⟨_, rfl, mkNode (x := xs[j]) b0 b1 b2⟩ ((Up.refl wr).drew)) (AV.up good_Node ⟨_, rfl, mkNode (x := ys[j]) f0 f1 f2⟩ ((Up.refl wr).drew))).mono ?_
        rintro e w1 ⟨bb, rfl, hbb, hu1⟩
        rcases (eqb_cases hbb).symm with ⟨rfl, he⟩ | ⟨rfl, he⟩
        · clear hbb
          have HE := Lib.hid he; clear he
          go_wp2_with fail
          go_roundw
          case rel => exact ⟨j + 1, by omega, by go_num, take_snoc_eq HT.out hlt hlt' HE.out, hu.drew.trans hu1⟩
          case measure => simp [intOf]; omega
        · clear hbb
          have HE := Lib.hid (ne_of_at hlt hlt' he); clear he
          go_wp2_with fail
          go_ret
          exact EqP.f HE.out (hu.drew.trans hu1)
      · have HE := Lib.hid (take_all_eq HT.out (by omega) (by rw [← HL.out]; omega))
        go_wp2
        go_ret
        exact EqP.t HE.out hu
  · have hb : ((xs.length : Int) != (ys.length : Int)) = true := by rw [bne_iff_ne]; omega
    have HE := Lib.hid (ne_of_len hl); clear hl
    go_enter Tryz.func40, Tryz.ntmps40
    go_wp2
    go_ret
    exact EqP.f HE.out (Up.refl _)

set_option maxHeartbeats 1000000 in
theorem c_eqTree (v u : Value) (x y : TTree) (w : World) (h : AV shTree w v x) (k : AV shTree w u y) :
    Calls Tryz.prog 13 #[v, u] w (EqP (x = y) w) := by
  obtain ⟨cs, rfl, h⟩ := h
  obtain ⟨x0, rfl⟩ : ∃ q, q = x := ⟨_, rfl⟩
  have ho := openTree h
  try dsimp only at ho
  obtain ⟨A0, c0, rfl, b0⟩ := ho
  obtain ⟨ds, rfl, k⟩ := k
  obtain ⟨y0, rfl⟩ : ∃ q, q = y := ⟨_, rfl⟩
  have ko := openTree k
  try dsimp only at ko
  obtain ⟨B0, d0, rfl, e0⟩ := ko
  have kx0 : Bk ((w.alloc (.cells #[.slice A0 x0.length c0] 33)).alloc (.cells #[.slice B0 y0.length d0] 33)) w.heap.size 33 #[.slice A0 x0.length c0] := (Bk.new _ _ _).alloc _
  have ky0 : Bk ((w.alloc (.cells #[.slice A0 x0.length c0] 33)).alloc (.cells #[.slice B0 y0.length d0] 33)) (w.heap.size + 1) 33 #[.slice B0 y0.length d0] := by simpa using Bk.new (w.alloc (.cells #[.slice A0 x0.length c0] 33)) 33 #[.slice B0 y0.length d0]
  have uu0 : Up w ((w.alloc (.cells #[.slice A0 x0.length c0] 33)).alloc (.cells #[.slice B0 y0.length d0] 33)) := ((Up.refl _).alloc _).alloc _
  go_enter Tryz.func13, Tryz.ntmps13
  go_wp2_with fail
  refine (c_eqNodeS _ _ _ _ _ _ _ (b0.up good_Node uu0) (e0.up good_Node uu0)).mono ?_
  rintro r w1 ⟨bb, rfl, hbb, u1⟩
  have uu1 := uu0.trans u1
  have kx1 := kx0.up u1
  have ky1 := ky0.up u1
  clear u1
  rcases eqb_cases hbb with ⟨rfl, e_0⟩ | ⟨rfl, e_0⟩
  · clear hbb
    have HE : Hid (¬ x0 = y0) := by unfold Hid; intro hh; (try simp only [Prod.mk.injEq] at hh); exact e_0 (by simp [hh])
    clear e_0
    go_wp2_with fail
    go_ret
    exact EqP.f HE.out uu1
  clear hbb
  subst e_0
  go_wp2_with fail
  go_ret
  exact EqP.t (by simp) uu1

set_option maxHeartbeats 1000000 in
theorem c_eqChange (v u : Value) (x y : TChange) (w : World) (h : AV shChange w v x) (k : AV shChange w u y) :
    Calls Tryz.prog 41 #[v, u] w (EqP (x = y) w) := by
  obtain ⟨cs, rfl, h⟩ := h
  obtain ⟨x0, x1, x2, x3⟩ := x
  have ho := openChange h
  try dsimp only at ho
  obtain ⟨A2, c2, rfl, b0, b1, b2, b3⟩ := ho
  obtain ⟨ds, rfl, k⟩ := k
  obtain ⟨y0, y1, y2, y3⟩ := y
  have ko := openChange k
  try dsimp only at ko
  obtain ⟨B2, d2, rfl, e0, e1, e2, e3⟩ := ko
  have kx0 : Bk ((w.alloc (.cells #[.int .i64 x0, .string x1, .slice A2 x2.length c2, .string x3] 72)).alloc (.cells #[.int .i64 y0, .string y1, .slice B2 y2.length d2, .string y3] 72)) w.heap.size 72 #[.int .i64 x0, .string x1, .slice A2 x2.length c2, .string x3] := (Bk.new _ _ _).alloc _
  have ky0 : Bk ((w.alloc (.cells #[.int .i64 x0, .string x1, .slice A2 x2.length c2, .string x3] 72)).alloc (.cells #[.int .i64 y0, .string y1, .slice B2 y2.length d2, .string y3] 72)) (w.heap.size + 1) 72 #[.int .i64 y0, .string y1, .slice B2 y2.length d2, .string y3] := by simpa using Bk.new (w.alloc (.cells #[.int .i64 x0, .string x1, .slice A2 x2.length c2, .string x3] 72)) 72 #[.int .i64 y0, .string y1, .slice B2 y2.length d2, .string y3]
  have uu0 : Up w ((w.alloc (.cells #[.int .i64 x0, .string x1, .slice A2 x2.length c2, .string x3] 72)).alloc (.cells #[.int .i64 y0, .string y1, .slice B2 y2.length d2, .string y3] 72)) := ((Up.refl _).alloc _).alloc _
  by_cases e_0 : ¬ x0 = y0
  · have hx : (x0 != y0) = true := by simp [e_0]
    have HE : Hid (¬ (x0, x1, x2, x3) = (y0, y1, y2, y3)) := by unfold Hid; intro hh; (try simp only [Prod.mk.injEq] at hh); exact e_0 (by simp [hh])
    clear e_0
    go_enter Tryz.func41, Tryz.ntmps41
    go_wp2_with fail
    go_ret
    exact EqP.f HE.out uu0
  replace e_0 := Decidable.of_not_not e_0
  subst e_0
  by_cases e_1 : ¬ x1 = y1
  · have hx : (x1.toList == y1.toList) = false := by rw [str_beq]; simp [e_1]
    have HE : Hid (¬ (x0, x1, x2, x3) = (x0, y1, y2, y3)) := by unfold Hid; intro hh; (try simp only [Prod.mk.injEq] at hh); exact e_1 (by simp [hh])
    clear e_1
    go_enter Tryz.func41, Tryz.ntmps41
    go_wp2_with fail
    go_ret
    exact EqP.f HE.out uu0
  replace e_1 := Decidable.of_not_not e_1
  subst e_1
  go_enter Tryz.func41, Tryz.ntmps41
  go_wp2_with fail
  refine (c_eqStringS _ _ _ _ _ _ _ (b2.up good_S uu0) (e2.up good_S uu0)).mono ?_
  rintro r w1 ⟨bb, rfl, hbb, u1⟩
  have uu1 := uu0.trans u1
  have kx1 := kx0.up u1
  have ky1 := ky0.up u1
  clear u1
  rcases eqb_cases hbb with ⟨rfl, e_2⟩ | ⟨rfl, e_2⟩
  · clear hbb
    have HE : Hid (¬ (x0, x1, x2, x3) = (x0, x1, y2, y3)) := by unfold Hid; intro hh; (try simp only [Prod.mk.injEq] at hh); exact e_2 (by simp [hh])
    clear e_2
    go_wp2_with fail
    go_ret
    exact EqP.f HE.out uu1
  clear hbb
  subst e_2
  have gx1_3 : w1.cell? ⟨w.heap.size, 3, none⟩ = some (.string x3) := kx1.cell 3
  have gy1_3 : w1.cell? ⟨w.heap.size + 1, 3, none⟩ = some (.string y3) := ky1.cell 3
  by_cases e_3 : ¬ x3 = y3
  · have hx : (x3.toList == y3.toList) = false := by rw [str_beq]; simp [e_3]
    have HE : Hid (¬ (x0, x1, x2, x3) = (x0, x1, x2, y3)) := by unfold Hid; intro hh; (try simp only [Prod.mk.injEq] at hh); exact e_3 (by simp [hh])
    clear e_3
    go_wp2_with fail
    go_ret
    exact EqP.f HE.out uu1
  replace e_3 := Decidable.of_not_not e_3
  subst e_3
  go_wp2_with fail
  go_ret
  exact EqP.t (by simp) uu1

set_option maxRecDepth 100000 in
set_option maxHeartbeats 1000000 in
theorem c_eqChangeS (xs ys : List TChange) (A B : Option Addr) (c d : Nat) (w : World) (h : SRW shChange w A c xs) (k : SRW shChange w B d ys) :
    Calls Tryz.prog 14 #[.slice A xs.length c, .slice B ys.length d] w (EqP (xs = ys) w) := by
  have hlen := h.len_le
  have klen := k.len_le
  by_cases hl : xs.length = ys.length
  · have hb : ((xs.length : Int) != (ys.length : Int)) = false := by simp [hl]
    have HL := Lib.hid hl; clear hl
    go_enter Tryz.func14, Tryz.ntmps14
    go_wp2
    go_loopw [5] (fun i wr => ∃ k : Nat, k ≤ xs.length ∧ i = .int .i64 k ∧ Hid (xs.take k = ys.take k) ∧ Up w wr) (fun i _ => xs.length - (intOf i).toNat)
    case atStart => exact ⟨0, Nat.zero_le _, rfl, rfl, Up.refl _⟩
    case round =>
      obtain ⟨j, hj, rfl, HT, hu⟩ := hrel
      by_cases hlt : j < xs.length
      · have hlt' : j < ys.length := by rw [← HL.out]; exact hlt
        obtain ⟨g, off, A2, c2, rfl, _, _, hc0, hc1, hc2, hc3, b0, b1, b2, b3, _⟩ := atChange (h.up good_Change hu) hlt
        obtain ⟨g', off', B2, d2, rfl, _, _, hd0, hd1, hd2, hd3, f0, f1, f2, f3, _⟩ := atChange (k.up good_Change hu) hlt'
        go_wp2_with fail
        go_still_tail 8, (by kernel_rfl)
        change wpList _ _ _ _ _ wr.drew
        go_wp2_with fail
        refine (c_eqChange _ _ xs[j] ys[j] _ (AV.up good_Change ⟨_, rfl, mkChange (x := xs[j]) b0 b1 b2 b3⟩ ((Up.refl wr).drew)) (AV.up good_Change ⟨_, rfl, mkChange (x := ys[j]) f0 f1 f2 f3⟩ ((Up.refl wr).drew))).mono ?_
        rintro e w1 ⟨bb, rfl, hbb, hu1⟩
        rcases (eqb_cases hbb).symm with ⟨rfl, he⟩ | ⟨rfl, he⟩
        · clear hbb
          have HE := Lib.hid he; clear he
          go_wp2_with fail
          go_roundw
          case rel => exact ⟨j + 1, by omega, by go_num, take_snoc_eq HT.out hlt hlt' HE.out, hu.drew.trans hu1⟩
          case measure => simp [intOf]; omega
        · clear hbb
          have HE := Lib.hid (ne_of_at hlt hlt' he); clear he
          go_wp2_with fail
          go_ret
          exact EqP.f HE.out (hu.drew.trans hu1)
      · have HE := Lib.hid (take_all_eq HT.out (by omega) (by rw [← HL.out]; omega))
        go_wp2
        go_ret
        exact EqP.t HE.out hu
  · have hb : ((xs.length : Int) != (ys.length : Int)) = true := by rw [bne_iff_ne]; omega
    have HE := Lib.hid (ne_of_len hl); clear hl
    go_enter Tryz.func14, Tryz.ntmps14
    go_wp2
    go_ret
    exact EqP.f HE.out (Up.refl _)

set_option maxHeartbeats 1000000 in
theorem c_eqImage (v u : Value) (x y : TImage) (w : World) (h : AV shImage w v x) (k : AV shImage w u y) :
    Calls Tryz.prog 39 #[v, u] w (EqP (x = y) w) := by
  obtain ⟨cs, rfl, h⟩ := h
  obtain ⟨x0, x1, x2, x3, x4, x5⟩ := x
  have ho := openImage h
  try dsimp only at ho
  obtain ⟨A1, c1, rfl, b0, b1, b3, b5⟩ := ho
  obtain ⟨ds, rfl, k⟩ := k
  obtain ⟨y0, y1, y2, y3, y4, y5⟩ := y
  have ko := openImage k
  try dsimp only at ko
  obtain ⟨B1, d1, rfl, e0, e1, e3, e5⟩ := ko
  have kx0 : Bk ((w.alloc (.cells #[.string x0, .slice A1 x1.length c1, .bool x2, .string x3, .bool x4, .string x5] 76)).alloc (.cells #[.string y0, .slice B1 y1.length d1, .bool y2, .string y3, .bool y4, .string y5] 76)) w.heap.size 76 #[.string x0, .slice A1 x1.length c1, .bool x2, .string x3, .bool x4, .string x5] := (Bk.new _ _ _).alloc _
  have ky0 : Bk ((w.alloc (.cells #[.string x0, .slice A1 x1.length c1, .bool x2, .string x3, .bool x4, .string x5] 76)).alloc (.cells #[.string y0, .slice B1 y1.length d1, .bool y2, .string y3, .bool y4, .string y5] 76)) (w.heap.size + 1) 76 #[.string y0, .slice B1 y1.length d1, .bool y2, .string y3, .bool y4, .string y5] := by simpa using Bk.new (w.alloc (.cells #[.string x0, .slice A1 x1.length c1, .bool x2, .string x3, .bool x4, .string x5] 76)) 76 #[.string y0, .slice B1 y1.length d1, .bool y2, .string y3, .bool y4, .string y5]
  have uu0 : Up w ((w.alloc (.cells #[.string x0, .slice A1 x1.length c1, .bool x2, .string x3, .bool x4, .string x5] 76)).alloc (.cells #[.string y0, .slice B1 y1.length d1, .bool y2, .string y3, .bool y4, .string y5] 76)) := ((Up.refl _).alloc _).alloc _
  by_cases e_0 : ¬ x0 = y0
  · have hx : (x0.toList == y0.toList) = false := by rw [str_beq]; simp [e_0]
    have HE : Hid (¬ (x0, x1, x2, x3, x4, x5) = (y0, y1, y2, y3, y4, y5)) := by unfold Hid; intro hh; (try simp only [Prod.mk.injEq] at hh); exact e_0 (by simp [hh])
    clear e_0
    go_enter Tryz.func39, Tryz.ntmps39
    go_wp2_with fail
    go_ret
    exact EqP.f HE.out uu0
  replace e_0 := Decidable.of_not_not e_0
  subst e_0
  go_enter Tryz.func39, Tryz.ntmps39
  go_wp2_with fail
  refine (c_eqStringS _ _ _ _ _ _ _ (b1.up good_S uu0) (e1.up good_S uu0)).mono ?_
  rintro r w1 ⟨bb, rfl, hbb, u1⟩
  have uu1 := uu0.trans u1
  have kx1 := kx0.up u1
  have ky1 := ky0.up u1
  clear u1
  rcases eqb_cases hbb with ⟨rfl, e_1⟩ | ⟨rfl, e_1⟩
  · clear hbb
    have HE : Hid (¬ (x0, x1, x2, x3, x4, x5) = (x0, y1, y2, y3, y4, y5)) := by unfold Hid; intro hh; (try simp only [Prod.mk.injEq] at hh); exact e_1 (by simp [hh])
    clear e_1
    go_wp2_with fail
    go_ret
    exact EqP.f HE.out uu1
  clear hbb
  subst e_1
  have gx1_2 : w1.cell? ⟨w.heap.size, 2, none⟩ = some (.bool x2) := kx1.cell 2
  have gy1_2 : w1.cell? ⟨w.heap.size + 1, 2, none⟩ = some (.bool y2) := ky1.cell 2
  have gx1_3 : w1.cell? ⟨w.heap.size, 3, none⟩ = some (.string x3) := kx1.cell 3
  have gy1_3 : w1.cell? ⟨w.heap.size + 1, 3, none⟩ = some (.string y3) := ky1.cell 3
  have gx1_4 : w1.cell? ⟨w.heap.size, 4, none⟩ = some (.bool x4) := kx1.cell 4
  have gy1_4 : w1.cell? ⟨w.heap.size + 1, 4, none⟩ = some (.bool y4) := ky1.cell 4
  have gx1_5 : w1.cell? ⟨w.heap.size, 5, none⟩ = some (.string x5) := kx1.cell 5
  have gy1_5 : w1.cell? ⟨w.heap.size + 1, 5, none⟩ = some (.string y5) := ky1.cell 5
  by_cases e_2 : ¬ x2 = y2
  · have hx : (x2 != y2) = true := by simp [e_2]
    have HE : Hid (¬ (x0, x1, x2, x3, x4, x5) = (x0, x1, y2, y3, y4, y5)) := by unfold Hid; intro hh; (try simp only [Prod.mk.injEq] at hh); exact e_2 (by simp [hh])
    clear e_2
    cases x2 <;> cases y2
    · simp at hx
    · clear hx
      go_wp2_with fail
      go_ret
      exact EqP.f HE.out uu1
    · clear hx
      go_wp2_with fail
      go_ret
      exact EqP.f HE.out uu1
    · simp at hx
  replace e_2 := Decidable.of_not_not e_2
  subst e_2
  by_cases e_3 : ¬ x3 = y3
  · have hx : (x3.toList == y3.toList) = false := by rw [str_beq]; simp [e_3]
    have HE : Hid (¬ (x0, x1, x2, x3, x4, x5) = (x0, x1, x2, y3, y4, y5)) := by unfold Hid; intro hh; (try simp only [Prod.mk.injEq] at hh); exact e_3 (by simp [hh])
    clear e_3
    go_wp2_with fail
    go_ret
    exact EqP.f HE.out uu1
  replace e_3 := Decidable.of_not_not e_3
  subst e_3
  by_cases e_4 : ¬ x4 = y4
  · have hx : (x4 != y4) = true := by simp [e_4]
    have HE : Hid (¬ (x0, x1, x2, x3, x4, x5) = (x0, x1, x2, x3, y4, y5)) := by unfold Hid; intro hh; (try simp only [Prod.mk.injEq] at hh); exact e_4 (by simp [hh])
    clear e_4
    cases x4 <;> cases y4
    · simp at hx
    · clear hx
      go_wp2_with fail
      go_ret
      exact EqP.f HE.out uu1
    · clear hx
      go_wp2_with fail
      go_ret
      exact EqP.f HE.out uu1
    · simp at hx
  replace e_4 := Decidable.of_not_not e_4
  subst e_4
  by_cases e_5 : ¬ x5 = y5
  · have hx : (x5.toList == y5.toList) = false := by rw [str_beq]; simp [e_5]
    have HE : Hid (¬ (x0, x1, x2, x3, x4, x5) = (x0, x1, x2, x3, x4, y5)) := by unfold Hid; intro hh; (try simp only [Prod.mk.injEq] at hh); exact e_5 (by simp [hh])
    clear e_5
    go_wp2_with fail
    go_ret
    exact EqP.f HE.out uu1
  replace e_5 := Decidable.of_not_not e_5
  subst e_5
  go_wp2_with fail
  go_ret
  exact EqP.t (by simp) uu1

set_option maxRecDepth 100000 in
set_option maxHeartbeats 1000000 in
theorem c_eqImageS (xs ys : List TImage) (A B : Option Addr) (c d : Nat) (w : World) (h : SRW shImage w A c xs) (k : SRW shImage w B d ys) :
    Calls Tryz.prog 12 #[.slice A xs.length c, .slice B ys.length d] w (EqP (xs = ys) w) := by
  have hlen := h.len_le
  have klen := k.len_le
  by_cases hl : xs.length = ys.length
  · have hb : ((xs.length : Int) != (ys.length : Int)) = false := by simp [hl]
    have HL := Lib.hid hl; clear hl
    go_enter Tryz.func12, Tryz.ntmps12
    go_wp2
    go_loopw [5] (fun i wr => ∃ k : Nat, k ≤ xs.length ∧ i = .int .i64 k ∧ Hid (xs.take k = ys.take k) ∧ Up w wr) (fun i _ => xs.length - (intOf i).toNat)
    case atStart => exact ⟨0, Nat.zero_le _, rfl, rfl, Up.refl _⟩
    case round =>
      obtain ⟨j, hj, rfl, HT, hu⟩ := hrel
      by_cases hlt : j < xs.length
      · have hlt' : j < ys.length := by rw [← HL.out]; exact hlt
        obtain ⟨g, off, A1, c1, rfl, _, _, hc0, hc1, hc2, hc3, hc4, hc5, b0, b1, b3, b5, _⟩ := atImage (h.up good_Image hu) hlt
        obtain ⟨g', off', B1, d1, rfl, _, _, hd0, hd1, hd2, hd3, hd4, hd5, f0, f1, f3, f5, _⟩ := atImage (k.up good_Image hu) hlt'
        go_wp2_with fail
        go_still_tail 8, (by kernel_rfl)
        change wpList _ _ _ _ _ wr.drew
        go_wp2_with fail
        refine (c_eqImage _ _ xs[j] ys[j] _ (AV.up good_Image ⟨_, rfl, mkImage (x := xs[j]) b0 b1 b3 b5⟩ ((Up.refl wr).drew)) (AV.up good_Image ⟨_, rfl, mkImage (x := ys[j]) f0 f1 f3 f5⟩ ((Up.refl wr).drew))).mono ?_
        rintro e w1 ⟨bb, rfl, hbb, hu1⟩
        rcases (eqb_cases hbb).symm with ⟨rfl, he⟩ | ⟨rfl, he⟩
        · clear hbb
          have HE := Lib.hid he; clear he
          go_wp2_with fail
          go_roundw
          case rel => exact ⟨j + 1, by omega, by go_num, take_snoc_eq HT.out hlt hlt' HE.out, hu.drew.trans hu1⟩
          case measure => simp [intOf]; omega
        · clear hbb
          have HE := Lib.hid (ne_of_at hlt hlt' he); clear he
          go_wp2_with fail
          go_ret
          exact EqP.f HE.out (hu.drew.trans hu1)
      · have HE := Lib.hid (take_all_eq HT.out (by omega) (by rw [← HL.out]; omega))
        go_wp2
        go_ret
        exact EqP.t HE.out hu
  · have hb : ((xs.length : Int) != (ys.length : Int)) = true := by rw [bne_iff_ne]; omega
    have HE := Lib.hid (ne_of_len hl); clear hl
    go_enter Tryz.func12, Tryz.ntmps12
    go_wp2
    go_ret
    exact EqP.f HE.out (Up.refl _)






end Go.Proofs.YtehhgogmbpdpbaaGreatDoor
