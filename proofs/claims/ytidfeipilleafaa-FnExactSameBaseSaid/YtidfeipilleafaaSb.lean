/-
  SamePage, SameBtree: the program and the reference.
-/
import Derived.Test.YtidfeipilleafaaSd
import Derived.Test.YtidfeipilleafaaFun
import Derived.Shelf.Abstract
namespace Go.Proofs.Ytidfeipilleafaa
open Go.RowKit
set_option linter.unusedSimpArgs false
set_option linter.unusedVariables false

set_option maxHeartbeats 1000000 in
theorem c_specSamePage (v u : Value) (x y : TPage) (w : World) (h : AV shPage w v x) (k : AV shPage w u y) :
    Calls Try.prog 111 #[v, u] w (EqP (x = y) w) := by
  obtain ⟨cs, rfl, h⟩ := h
  obtain ⟨x0, x1, x2, x3⟩ := x
  have ho := openPage h
  dsimp only at ho
  obtain ⟨A1, c1, A2, c2, A3, c3, rfl, b1, b2, b3⟩ := ho
  obtain ⟨ds, rfl, k⟩ := k
  obtain ⟨y0, y1, y2, y3⟩ := y
  have ko := openPage k
  dsimp only at ko
  obtain ⟨B1, d1, B2, d2, B3, d3, rfl, e1, e2, e3⟩ := ko
  have kx0 : Bk ((w.alloc (.cells #[.bool x0, .slice A1 x1.length c1, .slice A2 x2.length c2, .slice A3 x3.length c3] 115)).alloc (.cells #[.bool y0, .slice B1 y1.length d1, .slice B2 y2.length d2, .slice B3 y3.length d3] 115)) w.heap.size 115 #[.bool x0, .slice A1 x1.length c1, .slice A2 x2.length c2, .slice A3 x3.length c3] := (Bk.new _ _ _).alloc _
  have ky0 : Bk ((w.alloc (.cells #[.bool x0, .slice A1 x1.length c1, .slice A2 x2.length c2, .slice A3 x3.length c3] 115)).alloc (.cells #[.bool y0, .slice B1 y1.length d1, .slice B2 y2.length d2, .slice B3 y3.length d3] 115)) (w.heap.size + 1) 115 #[.bool y0, .slice B1 y1.length d1, .slice B2 y2.length d2, .slice B3 y3.length d3] := by simpa using Bk.new (w.alloc (.cells #[.bool x0, .slice A1 x1.length c1, .slice A2 x2.length c2, .slice A3 x3.length c3] 115)) 115 #[.bool y0, .slice B1 y1.length d1, .slice B2 y2.length d2, .slice B3 y3.length d3]
  have uu0 : Up w ((w.alloc (.cells #[.bool x0, .slice A1 x1.length c1, .slice A2 x2.length c2, .slice A3 x3.length c3] 115)).alloc (.cells #[.bool y0, .slice B1 y1.length d1, .slice B2 y2.length d2, .slice B3 y3.length d3] 115)) := ((Up.refl _).alloc _).alloc _
  by_cases e_0 : ¬ x0 = y0
  · have hx : (x0 == y0) = false := by simp [e_0]
    have HE : Hid (¬ (x0, x1, x2, x3) = (y0, y1, y2, y3)) := by unfold Hid; intro hh; (try simp only [Prod.mk.injEq] at hh); exact e_0 (by simp [hh])
    clear e_0
    cases x0 <;> cases y0
    · simp at hx
    · clear hx
      go_enter Try.func111, Try.ntmps111
      go_wp2_with fail
      go_ret
      exact EqP.f HE.out uu0
    · clear hx
      go_enter Try.func111, Try.ntmps111
      go_wp2_with fail
      go_ret
      exact EqP.f HE.out uu0
    · simp at hx
  replace e_0 := Decidable.of_not_not e_0
  subst e_0
  go_enter Try.func111, Try.ntmps111
  go_wp2_with fail
  refine (c_SameSubs _ _ _ _ _ _ _ (b1.up good_S uu0) (e1.up good_S uu0)).mono ?_
  rintro r w1 ⟨bb, rfl, hbb, u1⟩
  have uu1 := uu0.trans u1
  have kx1 := kx0.up u1
  have ky1 := ky0.up u1
  clear u1
  rcases eqb_cases hbb with ⟨rfl, e_1⟩ | ⟨rfl, e_1⟩
  · clear hbb
    have HE : Hid (¬ (x0, x1, x2, x3) = (x0, y1, y2, y3)) := by unfold Hid; intro hh; (try simp only [Prod.mk.injEq] at hh); exact e_1 (by simp [hh])
    clear e_1
    go_wp2_with fail
    go_ret
    exact EqP.f HE.out uu1
  clear hbb
  subst e_1
  have gx1_2 : w1.cell? ⟨w.heap.size, 2, none⟩ = some (.slice A2 x2.length c2) := kx1.cell 2
  have gy1_2 : w1.cell? ⟨w.heap.size + 1, 2, none⟩ = some (.slice B2 y2.length d2) := ky1.cell 2
  have gx1_3 : w1.cell? ⟨w.heap.size, 3, none⟩ = some (.slice A3 x3.length c3) := kx1.cell 3
  have gy1_3 : w1.cell? ⟨w.heap.size + 1, 3, none⟩ = some (.slice B3 y3.length d3) := ky1.cell 3
  go_wp2_with fail
  refine (c_SameSubs _ _ _ _ _ _ _ (b2.up good_S uu1) (e2.up good_S uu1)).mono ?_
  rintro r w2 ⟨bb, rfl, hbb, u2⟩
  have uu2 := uu1.trans u2
  have kx2 := kx1.up u2
  have ky2 := ky1.up u2
  clear u2
  rcases eqb_cases hbb with ⟨rfl, e_2⟩ | ⟨rfl, e_2⟩
  · clear hbb
    have HE : Hid (¬ (x0, x1, x2, x3) = (x0, x1, y2, y3)) := by unfold Hid; intro hh; (try simp only [Prod.mk.injEq] at hh); exact e_2 (by simp [hh])
    clear e_2
    go_wp2_with fail
    go_ret
    exact EqP.f HE.out uu2
  clear hbb
  subst e_2
  have gx2_3 : w2.cell? ⟨w.heap.size, 3, none⟩ = some (.slice A3 x3.length c3) := kx2.cell 3
  have gy2_3 : w2.cell? ⟨w.heap.size + 1, 3, none⟩ = some (.slice B3 y3.length d3) := ky2.cell 3
  go_wp2_with fail
  refine (c_l00Same _ _ _ _ _ _ _ (b3.up good_I uu2) (e3.up good_I uu2)).mono ?_
  rintro r w3 ⟨bb, rfl, hbb, u3⟩
  have uu3 := uu2.trans u3
  have kx3 := kx2.up u3
  have ky3 := ky2.up u3
  clear u3
  rcases eqb_cases hbb with ⟨rfl, e_3⟩ | ⟨rfl, e_3⟩
  · clear hbb
    have HE : Hid (¬ (x0, x1, x2, x3) = (x0, x1, x2, y3)) := by unfold Hid; intro hh; (try simp only [Prod.mk.injEq] at hh); exact e_3 (by simp [hh])
    clear e_3
    go_wp2_with fail
    go_ret
    exact EqP.f HE.out uu3
  clear hbb
  subst e_3
  go_wp2_with fail
  go_ret
  exact EqP.t (by simp) uu3

set_option maxHeartbeats 1000000 in
theorem c_implSamePage (v u : Value) (x y : TPage) (w : World) (h : AV shPage w v x) (k : AV shPage w u y) :
    Calls Try.prog 77 #[v, u] w (EqP (x = y) w) := by
  obtain ⟨cs, rfl, h⟩ := h
  obtain ⟨x0, x1, x2, x3⟩ := x
  have ho := openPage h
  dsimp only at ho
  obtain ⟨A1, c1, A2, c2, A3, c3, rfl, b1, b2, b3⟩ := ho
  obtain ⟨ds, rfl, k⟩ := k
  obtain ⟨y0, y1, y2, y3⟩ := y
  have ko := openPage k
  dsimp only at ko
  obtain ⟨B1, d1, B2, d2, B3, d3, rfl, e1, e2, e3⟩ := ko
  have kx0 : Bk ((w.alloc (.cells #[.bool x0, .slice A1 x1.length c1, .slice A2 x2.length c2, .slice A3 x3.length c3] 115)).alloc (.cells #[.bool y0, .slice B1 y1.length d1, .slice B2 y2.length d2, .slice B3 y3.length d3] 115)) w.heap.size 115 #[.bool x0, .slice A1 x1.length c1, .slice A2 x2.length c2, .slice A3 x3.length c3] := (Bk.new _ _ _).alloc _
  have ky0 : Bk ((w.alloc (.cells #[.bool x0, .slice A1 x1.length c1, .slice A2 x2.length c2, .slice A3 x3.length c3] 115)).alloc (.cells #[.bool y0, .slice B1 y1.length d1, .slice B2 y2.length d2, .slice B3 y3.length d3] 115)) (w.heap.size + 1) 115 #[.bool y0, .slice B1 y1.length d1, .slice B2 y2.length d2, .slice B3 y3.length d3] := by simpa using Bk.new (w.alloc (.cells #[.bool x0, .slice A1 x1.length c1, .slice A2 x2.length c2, .slice A3 x3.length c3] 115)) 115 #[.bool y0, .slice B1 y1.length d1, .slice B2 y2.length d2, .slice B3 y3.length d3]
  have uu0 : Up w ((w.alloc (.cells #[.bool x0, .slice A1 x1.length c1, .slice A2 x2.length c2, .slice A3 x3.length c3] 115)).alloc (.cells #[.bool y0, .slice B1 y1.length d1, .slice B2 y2.length d2, .slice B3 y3.length d3] 115)) := ((Up.refl _).alloc _).alloc _
  by_cases e_0 : ¬ x0 = y0
  · have hx : (x0 == y0) = false := by simp [e_0]
    have HE : Hid (¬ (x0, x1, x2, x3) = (y0, y1, y2, y3)) := by unfold Hid; intro hh; (try simp only [Prod.mk.injEq] at hh); exact e_0 (by simp [hh])
    clear e_0
    cases x0 <;> cases y0
    · simp at hx
    · clear hx
      go_enter Try.func77, Try.ntmps77
      go_wp2_with fail
      go_ret
      exact EqP.f HE.out uu0
    · clear hx
      go_enter Try.func77, Try.ntmps77
      go_wp2_with fail
      go_ret
      exact EqP.f HE.out uu0
    · simp at hx
  replace e_0 := Decidable.of_not_not e_0
  subst e_0
  go_enter Try.func77, Try.ntmps77
  go_wp2_with fail
  refine (c_slEqS _ _ _ _ _ _ _ (b1.up good_S uu0) (e1.up good_S uu0)).mono ?_
  rintro r w1 ⟨bb, rfl, hbb, u1⟩
  have uu1 := uu0.trans u1
  have kx1 := kx0.up u1
  have ky1 := ky0.up u1
  clear u1
  rcases eqb_cases hbb with ⟨rfl, e_1⟩ | ⟨rfl, e_1⟩
  · clear hbb
    have HE : Hid (¬ (x0, x1, x2, x3) = (x0, y1, y2, y3)) := by unfold Hid; intro hh; (try simp only [Prod.mk.injEq] at hh); exact e_1 (by simp [hh])
    clear e_1
    go_wp2_with fail
    go_ret
    exact EqP.f HE.out uu1
  clear hbb
  subst e_1
  have gx1_2 : w1.cell? ⟨w.heap.size, 2, none⟩ = some (.slice A2 x2.length c2) := kx1.cell 2
  have gy1_2 : w1.cell? ⟨w.heap.size + 1, 2, none⟩ = some (.slice B2 y2.length d2) := ky1.cell 2
  have gx1_3 : w1.cell? ⟨w.heap.size, 3, none⟩ = some (.slice A3 x3.length c3) := kx1.cell 3
  have gy1_3 : w1.cell? ⟨w.heap.size + 1, 3, none⟩ = some (.slice B3 y3.length d3) := ky1.cell 3
  go_wp2_with fail
  refine (c_slEqS _ _ _ _ _ _ _ (b2.up good_S uu1) (e2.up good_S uu1)).mono ?_
  rintro r w2 ⟨bb, rfl, hbb, u2⟩
  have uu2 := uu1.trans u2
  have kx2 := kx1.up u2
  have ky2 := ky1.up u2
  clear u2
  rcases eqb_cases hbb with ⟨rfl, e_2⟩ | ⟨rfl, e_2⟩
  · clear hbb
    have HE : Hid (¬ (x0, x1, x2, x3) = (x0, x1, y2, y3)) := by unfold Hid; intro hh; (try simp only [Prod.mk.injEq] at hh); exact e_2 (by simp [hh])
    clear e_2
    go_wp2_with fail
    go_ret
    exact EqP.f HE.out uu2
  clear hbb
  subst e_2
  have gx2_3 : w2.cell? ⟨w.heap.size, 3, none⟩ = some (.slice A3 x3.length c3) := kx2.cell 3
  have gy2_3 : w2.cell? ⟨w.heap.size + 1, 3, none⟩ = some (.slice B3 y3.length d3) := ky2.cell 3
  go_wp2_with fail
  refine (c_slEqI _ _ _ _ _ _ _ (b3.up good_I uu2) (e3.up good_I uu2)).mono ?_
  rintro r w3 ⟨bb, rfl, hbb, u3⟩
  have uu3 := uu2.trans u3
  have kx3 := kx2.up u3
  have ky3 := ky2.up u3
  clear u3
  rcases eqb_cases hbb with ⟨rfl, e_3⟩ | ⟨rfl, e_3⟩
  · clear hbb
    have HE : Hid (¬ (x0, x1, x2, x3) = (x0, x1, x2, y3)) := by unfold Hid; intro hh; (try simp only [Prod.mk.injEq] at hh); exact e_3 (by simp [hh])
    clear e_3
    go_wp2_with fail
    go_ret
    exact EqP.f HE.out uu3
  clear hbb
  subst e_3
  go_wp2_with fail
  go_ret
  exact EqP.t (by simp) uu3

set_option maxHeartbeats 1000000 in
theorem c_SameBtree1 (v u : Value) (x y : TSlot) (w : World) (h : AV shSlot w v x) (k : AV shSlot w u y) :
    Calls Try.prog 117 #[v, u] w (EqP (x = y) w) := by
  obtain ⟨cs, rfl, h⟩ := h
  obtain ⟨x0, ⟨x1, x2, x3, x4⟩⟩ := x
  have ho := openSlot h
  dsimp only at ho
  obtain ⟨A2, c2, A3, c3, A4, c4, rfl, b0, b2, b3, b4⟩ := ho
  obtain ⟨ds, rfl, k⟩ := k
  obtain ⟨y0, ⟨y1, y2, y3, y4⟩⟩ := y
  have ko := openSlot k
  dsimp only at ko
  obtain ⟨B2, d2, B3, d3, B4, d4, rfl, e0, e2, e3, e4⟩ := ko
  have kx0 : Bk ((w.alloc (.cells #[.int .i64 x0, .bool x1, .slice A2 x2.length c2, .slice A3 x3.length c3, .slice A4 x4.length c4] 150)).alloc (.cells #[.int .i64 y0, .bool y1, .slice B2 y2.length d2, .slice B3 y3.length d3, .slice B4 y4.length d4] 150)) w.heap.size 150 #[.int .i64 x0, .bool x1, .slice A2 x2.length c2, .slice A3 x3.length c3, .slice A4 x4.length c4] := (Bk.new _ _ _).alloc _
  have ky0 : Bk ((w.alloc (.cells #[.int .i64 x0, .bool x1, .slice A2 x2.length c2, .slice A3 x3.length c3, .slice A4 x4.length c4] 150)).alloc (.cells #[.int .i64 y0, .bool y1, .slice B2 y2.length d2, .slice B3 y3.length d3, .slice B4 y4.length d4] 150)) (w.heap.size + 1) 150 #[.int .i64 y0, .bool y1, .slice B2 y2.length d2, .slice B3 y3.length d3, .slice B4 y4.length d4] := by simpa using Bk.new (w.alloc (.cells #[.int .i64 x0, .bool x1, .slice A2 x2.length c2, .slice A3 x3.length c3, .slice A4 x4.length c4] 150)) 150 #[.int .i64 y0, .bool y1, .slice B2 y2.length d2, .slice B3 y3.length d3, .slice B4 y4.length d4]
  have uu0 : Up w ((w.alloc (.cells #[.int .i64 x0, .bool x1, .slice A2 x2.length c2, .slice A3 x3.length c3, .slice A4 x4.length c4] 150)).alloc (.cells #[.int .i64 y0, .bool y1, .slice B2 y2.length d2, .slice B3 y3.length d3, .slice B4 y4.length d4] 150)) := ((Up.refl _).alloc _).alloc _
  by_cases e_0 : ¬ x0 = y0
  · have hx : (x0 == y0) = false := by simp [e_0]
    have HE : Hid (¬ (x0, (x1, x2, x3, x4)) = (y0, (y1, y2, y3, y4))) := by unfold Hid; intro hh; (try simp only [Prod.mk.injEq] at hh); exact e_0 (by simp [hh])
    clear e_0
    go_enter Try.func117, Try.ntmps117
    go_wp2_with fail
    go_ret
    exact EqP.f HE.out uu0
  replace e_0 := Decidable.of_not_not e_0
  subst e_0
  go_enter Try.func117, Try.ntmps117
  go_wp2_with fail
  refine (c_implSamePage _ _ (x1, x2, x3, x4) (y1, y2, y3, y4) _ ⟨_, rfl, mkPage (x := (x1, x2, x3, x4)) (b2.up good_S uu0) (b3.up good_S uu0) (b4.up good_I uu0)⟩ ⟨_, rfl, mkPage (x := (y1, y2, y3, y4)) (e2.up good_S uu0) (e3.up good_S uu0) (e4.up good_I uu0)⟩).mono ?_
  rintro r w1 ⟨bb, rfl, hbb, u1⟩
  have uu1 := uu0.trans u1
  have kx1 := kx0.up u1
  have ky1 := ky0.up u1
  clear u1
  rcases eqb_cases hbb with ⟨rfl, e_1⟩ | ⟨rfl, e_1⟩
  · clear hbb
    have HE : Hid (¬ (x0, (x1, x2, x3, x4)) = (x0, (y1, y2, y3, y4))) := by unfold Hid; intro hh; (try simp only [Prod.mk.injEq] at hh); exact e_1 (by simp [hh])
    clear e_1
    go_wp2_with fail
    go_ret
    exact EqP.f HE.out uu1
  clear hbb
  simp only [Prod.mk.injEq] at e_1
  obtain ⟨rfl, rfl, rfl, rfl⟩ := e_1
  go_wp2_with fail
  go_ret
  exact EqP.t (by simp) uu1

set_option maxRecDepth 100000 in
set_option maxHeartbeats 2000000 in
theorem c_EqualFuncSlot (kf : FuncId) (eg : ∀ args w, (callFunc kf args).run Try.prog w = .ok (.enter kf args) w) (xs ys : List TSlot) (A B : Option Addr) (c d : Nat) (w : World) (h : SRW shSlot w A c xs) (k : SRW shSlot w B d ys)
    (hf : ∀ (W : World) (v u : Value) (x y : TSlot), Up w W → AV shSlot W v x → AV shSlot W u y → Calls Try.prog kf #[v, u] W (EqP (x = y) W)) :
    Calls Try.prog 116 #[.slice A xs.length c, .slice B ys.length d, .func (.func kf) #[] #[]] w (EqP (xs = ys) w) := by
  have hlen := h.len_le
  have klen := k.len_le
  have HF := Lib.hid hf; clear hf
  by_cases hl : xs.length = ys.length
  · have hb : ((xs.length : Int) != (ys.length : Int)) = false := by simp [hl]
    have HL := Lib.hid hl; clear hl
    go_enter Try.func116, Try.ntmps116
    go_wp2_with fail
    go_loopw [17] (fun i wr => ∃ k : Nat, k ≤ xs.length ∧ i = .int .i64 k ∧ Hid (xs.take k = ys.take k) ∧ Up w wr) (fun i _ => xs.length - (intOf i).toNat)
    case atStart => exact ⟨0, Nat.zero_le _, rfl, rfl, Up.refl _⟩
    case round =>
      obtain ⟨j, hj, rfl, HT, hu⟩ := hrel
      by_cases hlt : j < xs.length
      · have hlt' : j < ys.length := by rw [← HL.out]; exact hlt
        obtain ⟨g, off, A2, c2, A3, c3, A4, c4, rfl, _, hg1, hc0, hc1, hc2, hc3, hc4, b0, b2, b3, b4, _⟩ := atSlot (h.up good_Slot hu) hlt
        obtain ⟨g', off', B2, d2, B3, d3, B4, d4, rfl, _, hg2, hd0, hd1, hd2, hd3, hd4, f0, f2, f3, f4, _⟩ := atSlot (k.up good_Slot hu) hlt'
        have U2 : Up wr ((wr.alloc (.cells #[.int .i64 xs[j].1, .bool xs[j].2.1, .slice A2 xs[j].2.2.1.length c2, .slice A3 xs[j].2.2.2.1.length c3, .slice A4 xs[j].2.2.2.2.length c4] 150)).alloc (.cells #[.int .i64 ys[j].1, .bool ys[j].2.1, .slice B2 ys[j].2.2.1.length d2, .slice B3 ys[j].2.2.2.1.length d3, .slice B4 ys[j].2.2.2.2.length d4] 150)) := ((Up.refl _).alloc _).alloc _
        go_wp2_with fail
        refine (HF.out _ _ _ xs[j] ys[j] (hu.trans U2) (AV.up good_Slot ⟨_, rfl, mkSlot (x := xs[j]) b0 b2 b3 b4⟩ U2) (AV.up good_Slot ⟨_, rfl, mkSlot (x := ys[j]) f0 f2 f3 f4⟩ U2)).mono ?_
        rintro e w1 ⟨bb, rfl, hbb, hu1⟩
        rcases (eqb_cases hbb).symm with ⟨rfl, he⟩ | ⟨rfl, he⟩
        · clear hbb
          have HE := Lib.hid he; clear he
          go_wp2_with fail
          go_roundw
          case rel => exact ⟨j + 1, by omega, by go_num, take_snoc_eq HT.out hlt hlt' HE.out, (hu.trans U2).trans hu1⟩
          case measure => simp [intOf]; omega
        · clear hbb
          have HE := Lib.hid (ne_of_at hlt hlt' he); clear he
          go_wp2_with fail
          go_ret
          exact EqP.f HE.out ((hu.trans U2).trans hu1)
      · have HE := Lib.hid (take_all_eq HT.out (by omega) (by rw [← HL.out]; omega))
        go_wp2_with fail
        go_ret
        exact EqP.t HE.out hu
  · have hb : ((xs.length : Int) != (ys.length : Int)) = true := by rw [bne_iff_ne]; omega
    have HE := Lib.hid (ne_of_len hl); clear hl
    go_enter Try.func116, Try.ntmps116
    go_wp2_with fail
    go_ret
    exact EqP.f HE.out (Up.refl _)

set_option maxRecDepth 100000 in
theorem eg_SameBtree1 : ∀ args w, (callFunc 117 args).run Try.prog w = .ok (.enter 117 args) w := enters_of Try.func117 (by kernel_rfl) rfl

set_option maxHeartbeats 2000000 in
theorem c_implSameBtree (v u : Value) (x y : TBtree) (w : World) (h : AV shBtree w v x) (k : AV shBtree w u y) :
    Calls Try.prog 50 #[v, u] w (EqP (x = y) w) := by
  obtain ⟨cs, rfl, h⟩ := h
  obtain ⟨ds, rfl, k⟩ := k
  obtain ⟨x0, x1⟩ := x
  obtain ⟨y0, y1⟩ := y
  have ho := openBtree h
  have ko := openBtree k
  dsimp only at ho ko
  obtain ⟨A1, c1, rfl, b0, b1⟩ := ho
  obtain ⟨B1, d1, rfl, e0, e1⟩ := ko
  by_cases q0 : x0 = y0
  · subst q0
    have u0 : Up w ((w.alloc (.cells #[.int .i64 x0, .slice A1 x1.length c1] 43)).alloc (.cells #[.int .i64 x0, .slice B1 y1.length d1] 43)) := ((Up.refl _).alloc _).alloc _
    go_enter Try.func50, Try.ntmps50
    go_wp2_with fail
    refine (c_EqualFuncSlot 117 eg_SameBtree1 _ _ _ _ _ _ _ (b1.up good_Slot u0) (e1.up good_Slot u0) (fun W v u x y _ hx hy => c_SameBtree1 v u x y W hx hy)).mono ?_
    rintro e w1 ⟨b, rfl, hb, u1⟩
    have HE : Hid ((b = true) ↔ ((x0, x1) = (x0, y1))) := by unfold Hid; simp [hb]
    clear hb
    go_wp2_with fail
    go_ret
    exact ⟨b, rfl, HE.out, u0.trans u1⟩
  · have hx : (x0 == y0) = false := by simp [q0]
    have HE : Hid (¬ (x0, x1) = (y0, y1)) := by unfold Hid; simp [q0]
    clear q0
    go_enter Try.func50, Try.ntmps50
    go_wp2_with fail
    go_ret
    exact EqP.f HE.out (((Up.refl _).alloc _).alloc _)

set_option maxRecDepth 100000 in
set_option maxHeartbeats 4000000 in
theorem c_specSameBtree (v u : Value) (x y : TBtree) (w : World) (h : AV shBtree w v x) (k : AV shBtree w u y) :
    Calls Try.prog 46 #[v, u] w (EqP (x = y) w) := by
  obtain ⟨cs, rfl, h⟩ := h
  obtain ⟨ds, rfl, k⟩ := k
  obtain ⟨x0, x1⟩ := x
  obtain ⟨y0, y1⟩ := y
  have ho := openBtree h
  have ko := openBtree k
  dsimp only at ho ko
  obtain ⟨A1, c1, rfl, b0, b1⟩ := ho
  obtain ⟨B1, d1, rfl, e0, e1⟩ := ko
  by_cases q0 : x0 = y0
  · subst q0
    have u0 : Up w ((w.alloc (.cells #[.int .i64 x0, .slice A1 x1.length c1] 43)).alloc (.cells #[.int .i64 x0, .slice B1 y1.length d1] 43)) := ((Up.refl _).alloc _).alloc _
    have kx0 : Bk ((w.alloc (.cells #[.int .i64 x0, .slice A1 x1.length c1] 43)).alloc (.cells #[.int .i64 x0, .slice B1 y1.length d1] 43)) w.heap.size 43 #[.int .i64 x0, .slice A1 x1.length c1] := (Bk.new _ _ _).alloc _
    have ky0 : Bk ((w.alloc (.cells #[.int .i64 x0, .slice A1 x1.length c1] 43)).alloc (.cells #[.int .i64 x0, .slice B1 y1.length d1] 43)) (w.heap.size + 1) 43 #[.int .i64 x0, .slice B1 y1.length d1] := by simpa using Bk.new (w.alloc (.cells #[.int .i64 x0, .slice A1 x1.length c1] 43)) 43 #[.int .i64 x0, .slice B1 y1.length d1]
    have hlen := b1.len_le
    have klen := e1.len_le
    by_cases hl : x1.length = y1.length
    · have hbn : ((x1.length : Int) != (y1.length : Int)) = false := by simp [hl]
      have HL := Lib.hid hl; clear hl
      go_enter Try.func46, Try.ntmps46
      go_wp2_with fail
      go_loopw [5] (fun i wr => ∃ k : Nat, k ≤ x1.length ∧ i = .int .i64 k ∧ Hid (x1.take k = y1.take k) ∧ Up w wr ∧ Bk wr w.heap.size 43 #[.int .i64 x0, .slice A1 x1.length c1] ∧ Bk wr (w.heap.size + 1) 43 #[.int .i64 x0, .slice B1 y1.length d1]) (fun i _ => x1.length - (intOf i).toNat)
      case atStart => exact ⟨0, Nat.zero_le _, rfl, rfl, u0, kx0, ky0⟩
      case round =>
        obtain ⟨j, hj, rfl, HT, hu, kx, ky⟩ := hrel
        have gx : wr.cell? ⟨w.heap.size, 1, none⟩ = some (.slice A1 x1.length c1) := kx.cell 1
        have gy : wr.cell? ⟨w.heap.size + 1, 1, none⟩ = some (.slice B1 y1.length d1) := ky.cell 1
        by_cases hlt : j < x1.length
        · have hlt' : j < y1.length := by rw [← HL.out]; exact hlt
          obtain ⟨g, off, A2, c2, A3, c3, A4, c4, rfl, _, hg1, hc0, hc1, hc2, hc3, hc4, b0', b2, b3, b4, _⟩ := atSlot (b1.up good_Slot hu) hlt
          obtain ⟨g', off', B2, d2, B3, d3, B4, d4, rfl, _, hg2, hd0, hd1, hd2, hd3, hd4, e0', e2, e3, e4, _⟩ := atSlot (e1.up good_Slot hu) hlt'
          have tx := fun t : UpT wr => cell_up t gx
          have ty := fun t : UpT wr => cell_up t gy
          have t0 := fun t : UpT wr => cell_up t hc0
          have t1 := fun t : UpT wr => cell_up t hc1
          have t2 := fun t : UpT wr => cell_up t hc2
          have t3 := fun t : UpT wr => cell_up t hc3
          have t4 := fun t : UpT wr => cell_up t hc4
          have s0 := fun t : UpT wr => cell_up t hd0
          have s1 := fun t : UpT wr => cell_up t hd1
          have s2 := fun t : UpT wr => cell_up t hd2
          have s3 := fun t : UpT wr => cell_up t hd3
          have s4 := fun t : UpT wr => cell_up t hd4
          by_cases he0 : x1[j].1 = y1[j].1
          · have hx : (x1[j].1 != y1[j].1) = false := by simp [he0]
            by_cases he1 : x1[j].2 = y1[j].2
            · have HE : Hid (x1[j] = y1[j]) := Prod.ext he0 he1
              have HE1 := Lib.hid he1
              clear he0 he1
              go_wp2_with fail
              refine wp_region_up (by kernel_rfl) (by kernel_rfl) ?_
              repeat (go_big_quiet_step ((go_at_call 111; exact up_eqt (c_specSamePage _ _ x1[j].2 y1[j].2 _ (AV.up good_Page ⟨_, rfl, mkPage (x := x1[j].2) b2 b3 b4⟩ (UpT.up _)) (AV.up good_Page ⟨_, rfl, mkPage (x := y1[j].2) e2 e3 e4⟩ (UpT.up _))) HE1.out (UpT.up _))))
              refine wpQuiet_nil ?_
              rintro _ ⟨⟨w1, u1⟩, rfl⟩
              go_wp2_with fail
              go_roundw
              case rel => exact ⟨j + 1, by omega, by go_num, take_snoc_eq HT.out hlt hlt' HE.out, hu.trans u1, kx.up u1, ky.up u1⟩
              case measure => simp [intOf]; omega
            · have HE : Hid (¬ (x0, x1) = (x0, y1)) := by unfold Hid; have := ne_of_at hlt hlt' (fun e => he1 (by rw [e])); simp [this]
              have HE1 := Lib.hid he1
              clear he0 he1
              go_wp2_with fail
              refine wp_region_up (by kernel_rfl) (by kernel_rfl) ?_
              repeat (go_big_quiet_step ((go_at_call 111; exact up_eqf (c_specSamePage _ _ x1[j].2 y1[j].2 _ (AV.up good_Page ⟨_, rfl, mkPage (x := x1[j].2) b2 b3 b4⟩ (UpT.up _)) (AV.up good_Page ⟨_, rfl, mkPage (x := y1[j].2) e2 e3 e4⟩ (UpT.up _))) HE1.out (UpT.up _))))
              refine wpQuiet_nil ?_
              rintro _ ⟨⟨w1, u1⟩, rfl⟩
              go_wp2_with fail
              go_ret
              exact EqP.f HE.out (hu.trans u1)
          · have hx : (x1[j].1 != y1[j].1) = true := by simp [he0]
            have HE : Hid (¬ (x0, x1) = (x0, y1)) := by unfold Hid; have := ne_of_at hlt hlt' (fun e => he0 (by rw [e])); simp [this]
            clear he0
            go_wp2_with fail
            refine wp_region_up (by kernel_rfl) (by kernel_rfl) ?_
            repeat (go_big_quiet_step (fail))
            refine wpQuiet_nil ?_
            rintro _ ⟨⟨w1, u1⟩, rfl⟩
            go_wp2_with fail
            go_ret
            exact EqP.f HE.out (hu.trans u1)
        · have HE : Hid ((x0, x1) = (x0, y1)) := by rw [take_all_eq HT.out (by omega) (by rw [← HL.out]; omega)]; rfl
          go_wp2_with fail
          go_ret
          exact EqP.t HE.out hu
    · have hbn : ((x1.length : Int) != (y1.length : Int)) = true := by rw [bne_iff_ne]; omega
      have HE : Hid (¬ (x0, x1) = (x0, y1)) := by unfold Hid; simp [ne_of_len hl]
      clear hl
      go_enter Try.func46, Try.ntmps46
      go_wp2_with fail
      go_ret
      exact EqP.f HE.out u0
  · have hx : (x0 != y0) = true := by simp [q0]
    have HE : Hid (¬ (x0, x1) = (y0, y1)) := by unfold Hid; simp [q0]
    clear q0
    go_enter Try.func46, Try.ntmps46
    go_wp2_with fail
    go_ret
    exact EqP.f HE.out (((Up.refl _).alloc _).alloc _)

theorem cs_SameBtree (v0 : Value) (x0 : TBtree) (v1 : Value) (x1 : TBtree) (w : World) (h0 : AV shBtree w v0 x0) (_n0 : shBtree.sz x0 ≤ 1048576) (h1 : AV shBtree w v1 x1) (_n1 : shBtree.sz x1 ≤ 1048576) :
    Calls Try.prog 46 #[v0, v1] w (EqP (x0 = x1) w) := c_specSameBtree v0 v1 x0 x1 w h0 h1
theorem ci_SameBtree (v0 : Value) (x0 : TBtree) (v1 : Value) (x1 : TBtree) (w : World) (h0 : AV shBtree w v0 x0) (_n0 : shBtree.sz x0 ≤ 1048576) (h1 : AV shBtree w v1 x1) (_n1 : shBtree.sz x1 ≤ 1048576) :
    Calls Try.prog 50 #[v0, v1] w (EqP (x0 = x1) w) := c_implSameBtree v0 v1 x0 x1 w h0 h1
end Go.Proofs.Ytidfeipilleafaa
