/-
  SamePage, SameBtree: the program and the reference.
-/
import Derived.Test.YtgdcdfpnogiciaaSd
import Derived.Test.YtgdcdfpnogiciaaFun
import Derived.Shelf.Abstract
namespace Go.Proofs.Ytgdcdfpnogiciaa
open Go.RowKit
set_option linter.unusedSimpArgs false
set_option linter.unusedVariables false

set_option maxHeartbeats 1000000 in
theorem c_specSamePage (v u : Value) (x y : TPage) (w : World) (h : AV shPage w v x) (k : AV shPage w u y) :
    Calls Try.prog 43 #[v, u] w (EqP (x = y) w) := by
  obtain ⟨cs, rfl, h⟩ := h
  obtain ⟨x0, x1, x2, x3⟩ := x
  have ho := openPage h
  dsimp only at ho
  obtain ⟨A1, c1, A2, c2, A3, c3, rfl, b1, b2, b3⟩ := ho
  obtain ⟨ds, rfl, k⟩ := k
  obtain ⟨y0, y1, y2, y3⟩ := y
  have ko := openPage k
  dsimp only at ko
  obtain ⟨B1, d1, B2, d2, B3, d3, rfl, e1, e2, e3⟩ := ko
  have kx0 : Bk ((w.alloc (.cells #[.bool x0, .slice A1 x1.length c1, .slice A2 x2.length c2, .slice A3 x3.length c3] 61)).alloc (.cells #[.bool y0, .slice B1 y1.length d1, .slice B2 y2.length d2, .slice B3 y3.length d3] 61)) w.heap.size 61 #[.bool x0, .slice A1 x1.length c1, .slice A2 x2.length c2, .slice A3 x3.length c3] := (Bk.new _ _ _).alloc _
  have ky0 : Bk ((w.alloc (.cells #[.bool x0, .slice A1 x1.length c1, .slice A2 x2.length c2, .slice A3 x3.length c3] 61)).alloc (.cells #[.bool y0, .slice B1 y1.length d1, .slice B2 y2.length d2, .slice B3 y3.length d3] 61)) (w.heap.size + 1) 61 #[.bool y0, .slice B1 y1.length d1, .slice B2 y2.length d2, .slice B3 y3.length d3] := by simpa using Bk.new (w.alloc (.cells #[.bool x0, .slice A1 x1.length c1, .slice A2 x2.length c2, .slice A3 x3.length c3] 61)) 61 #[.bool y0, .slice B1 y1.length d1, .slice B2 y2.length d2, .slice B3 y3.length d3]
  have uu0 : Up w ((w.alloc (.cells #[.bool x0, .slice A1 x1.length c1, .slice A2 x2.length c2, .slice A3 x3.length c3] 61)).alloc (.cells #[.bool y0, .slice B1 y1.length d1, .slice B2 y2.length d2, .slice B3 y3.length d3] 61)) := ((Up.refl _).alloc _).alloc _
  by_cases e_0 : ¬ x0 = y0
  · have hx : (x0 == y0) = false := by simp [e_0]
    have HE : Hid (¬ (x0, x1, x2, x3) = (y0, y1, y2, y3)) := by unfold Hid; intro hh; (try simp only [Prod.mk.injEq] at hh); exact e_0 (by simp [hh])
    clear e_0
    cases x0 <;> cases y0
    · simp at hx
    · clear hx
      go_enter Try.func43, Try.ntmps43
      go_wp2_with fail
      go_ret
      exact EqP.f HE.out uu0
    · clear hx
      go_enter Try.func43, Try.ntmps43
      go_wp2_with fail
      go_ret
      exact EqP.f HE.out uu0
    · simp at hx
  replace e_0 := Decidable.of_not_not e_0
  subst e_0
  go_enter Try.func43, Try.ntmps43
  go_wp2_with fail
  refine (c_SameSubs _ _ _ _ _ _ _ (b1.up good_S uu0) (e1.up good_S uu0)).mono ?_
  rintro r w1 ⟨bb, rfl, hbb, u1⟩
  have uu1 := uu0.trans u1
  have kx1 := kx0.up u1
  have ky1 := ky0.up u1
  clear u1
  rcases eqb_cases hbb with ⟨rfl, e_1⟩ | ⟨rfl, e_1⟩
  · clear hbb
    have HE : Hid (¬ (x0, x1, x2, x3) = (x0, y1, y2, y3)) := by unfold Hid; intro hh; (try simp only [Prod.mk.injEq] at hh); exact e_1 (by simp [hh])
    clear e_1
    go_wp2_with fail
    go_ret
    exact EqP.f HE.out uu1
  clear hbb
  subst e_1
  have gx1_2 : w1.cell? ⟨w.heap.size, 2, none⟩ = some (.slice A2 x2.length c2) := kx1.cell 2
  have gy1_2 : w1.cell? ⟨w.heap.size + 1, 2, none⟩ = some (.slice B2 y2.length d2) := ky1.cell 2
  have gx1_3 : w1.cell? ⟨w.heap.size, 3, none⟩ = some (.slice A3 x3.length c3) := kx1.cell 3
  have gy1_3 : w1.cell? ⟨w.heap.size + 1, 3, none⟩ = some (.slice B3 y3.length d3) := ky1.cell 3
  go_wp2_with fail
  refine (c_SameSubs _ _ _ _ _ _ _ (b2.up good_S uu1) (e2.up good_S uu1)).mono ?_
  rintro r w2 ⟨bb, rfl, hbb, u2⟩
  have uu2 := uu1.trans u2
  have kx2 := kx1.up u2
  have ky2 := ky1.up u2
  clear u2
  rcases eqb_cases hbb with ⟨rfl, e_2⟩ | ⟨rfl, e_2⟩
  · clear hbb
    have HE : Hid (¬ (x0, x1, x2, x3) = (x0, x1, y2, y3)) := by unfold Hid; intro hh; (try simp only [Prod.mk.injEq] at hh); exact e_2 (by simp [hh])
    clear e_2
    go_wp2_with fail
    go_ret
    exact EqP.f HE.out uu2
  clear hbb
  subst e_2
  have gx2_3 : w2.cell? ⟨w.heap.size, 3, none⟩ = some (.slice A3 x3.length c3) := kx2.cell 3
  have gy2_3 : w2.cell? ⟨w.heap.size + 1, 3, none⟩ = some (.slice B3 y3.length d3) := ky2.cell 3
  go_wp2_with fail
  refine (c_l00Same _ _ _ _ _ _ _ (b3.up good_I uu2) (e3.up good_I uu2)).mono ?_
  rintro r w3 ⟨bb, rfl, hbb, u3⟩
  have uu3 := uu2.trans u3
  have kx3 := kx2.up u3
  have ky3 := ky2.up u3
  clear u3
  rcases eqb_cases hbb with ⟨rfl, e_3⟩ | ⟨rfl, e_3⟩
  · clear hbb
    have HE : Hid (¬ (x0, x1, x2, x3) = (x0, x1, x2, y3)) := by unfold Hid; intro hh; (try simp only [Prod.mk.injEq] at hh); exact e_3 (by simp [hh])
    clear e_3
    go_wp2_with fail
    go_ret
    exact EqP.f HE.out uu3
  clear hbb
  subst e_3
  go_wp2_with fail
  go_ret
  exact EqP.t (by simp) uu3

set_option maxHeartbeats 1000000 in
theorem c_implSamePage (v u : Value) (x y : TPage) (w : World) (h : AV shPage w v x) (k : AV shPage w u y) :
    Calls Try.prog 30 #[v, u] w (EqP (x = y) w) := by
  obtain ⟨cs, rfl, h⟩ := h
  obtain ⟨x0, x1, x2, x3⟩ := x
  have ho := openPage h
  dsimp only at ho
  obtain ⟨A1, c1, A2, c2, A3, c3, rfl, b1, b2, b3⟩ := ho
  obtain ⟨ds, rfl, k⟩ := k
  obtain ⟨y0, y1, y2, y3⟩ := y
  have ko := openPage k
  dsimp only at ko
  obtain ⟨B1, d1, B2, d2, B3, d3, rfl, e1, e2, e3⟩ := ko
  have kx0 : Bk ((w.alloc (.cells #[.bool x0, .slice A1 x1.length c1, .slice A2 x2.length c2, .slice A3 x3.length c3] 61)).alloc (.cells #[.bool y0, .slice B1 y1.length d1, .slice B2 y2.length d2, .slice B3 y3.length d3] 61)) w.heap.size 61 #[.bool x0, .slice A1 x1.length c1, .slice A2 x2.length c2, .slice A3 x3.length c3] := (Bk.new _ _ _).alloc _
  have ky0 : Bk ((w.alloc (.cells #[.bool x0, .slice A1 x1.length c1, .slice A2 x2.length c2, .slice A3 x3.length c3] 61)).alloc (.cells #[.bool y0, .slice B1 y1.length d1, .slice B2 y2.length d2, .slice B3 y3.length d3] 61)) (w.heap.size + 1) 61 #[.bool y0, .slice B1 y1.length d1, .slice B2 y2.length d2, .slice B3 y3.length d3] := by simpa using Bk.new (w.alloc (.cells #[.bool x0, .slice A1 x1.length c1, .slice A2 x2.length c2, .slice A3 x3.length c3] 61)) 61 #[.bool y0, .slice B1 y1.length d1, .slice B2 y2.length d2, .slice B3 y3.length d3]
  have uu0 : Up w ((w.alloc (.cells #[.bool x0, .slice A1 x1.length c1, .slice A2 x2.length c2, .slice A3 x3.length c3] 61)).alloc (.cells #[.bool y0, .slice B1 y1.length d1, .slice B2 y2.length d2, .slice B3 y3.length d3] 61)) := ((Up.refl _).alloc _).alloc _
  by_cases e_0 : ¬ x0 = y0
  · have hx : (x0 == y0) = false := by simp [e_0]
    have HE : Hid (¬ (x0, x1, x2, x3) = (y0, y1, y2, y3)) := by unfold Hid; intro hh; (try simp only [Prod.mk.injEq] at hh); exact e_0 (by simp [hh])
    clear e_0
    cases x0 <;> cases y0
    · simp at hx
    · clear hx
      go_enter Try.func30, Try.ntmps30
      go_wp2_with fail
      go_ret
      exact EqP.f HE.out uu0
    · clear hx
      go_enter Try.func30, Try.ntmps30
      go_wp2_with fail
      go_ret
      exact EqP.f HE.out uu0
    · simp at hx
  replace e_0 := Decidable.of_not_not e_0
  subst e_0
  go_enter Try.func30, Try.ntmps30
  go_wp2_with fail
  refine (c_slEqS _ _ _ _ _ _ _ (b1.up good_S uu0) (e1.up good_S uu0)).mono ?_
  rintro r w1 ⟨bb, rfl, hbb, u1⟩
  have uu1 := uu0.trans u1
  have kx1 := kx0.up u1
  have ky1 := ky0.up u1
  clear u1
  rcases eqb_cases hbb with ⟨rfl, e_1⟩ | ⟨rfl, e_1⟩
  · clear hbb
    have HE : Hid (¬ (x0, x1, x2, x3) = (x0, y1, y2, y3)) := by unfold Hid; intro hh; (try simp only [Prod.mk.injEq] at hh); exact e_1 (by simp [hh])
    clear e_1
    go_wp2_with fail
    go_ret
    exact EqP.f HE.out uu1
  clear hbb
  subst e_1
  have gx1_2 : w1.cell? ⟨w.heap.size, 2, none⟩ = some (.slice A2 x2.length c2) := kx1.cell 2
  have gy1_2 : w1.cell? ⟨w.heap.size + 1, 2, none⟩ = some (.slice B2 y2.length d2) := ky1.cell 2
  have gx1_3 : w1.cell? ⟨w.heap.size, 3, none⟩ = some (.slice A3 x3.length c3) := kx1.cell 3
  have gy1_3 : w1.cell? ⟨w.heap.size + 1, 3, none⟩ = some (.slice B3 y3.length d3) := ky1.cell 3
  go_wp2_with fail
  refine (c_slEqS _ _ _ _ _ _ _ (b2.up good_S uu1) (e2.up good_S uu1)).mono ?_
  rintro r w2 ⟨bb, rfl, hbb, u2⟩
  have uu2 := uu1.trans u2
  have kx2 := kx1.up u2
  have ky2 := ky1.up u2
  clear u2
  rcases eqb_cases hbb with ⟨rfl, e_2⟩ | ⟨rfl, e_2⟩
  · clear hbb
    have HE : Hid (¬ (x0, x1, x2, x3) = (x0, x1, y2, y3)) := by unfold Hid; intro hh; (try simp only [Prod.mk.injEq] at hh); exact e_2 (by simp [hh])
    clear e_2
    go_wp2_with fail
    go_ret
    exact EqP.f HE.out uu2
  clear hbb
  subst e_2
  have gx2_3 : w2.cell? ⟨w.heap.size, 3, none⟩ = some (.slice A3 x3.length c3) := kx2.cell 3
  have gy2_3 : w2.cell? ⟨w.heap.size + 1, 3, none⟩ = some (.slice B3 y3.length d3) := ky2.cell 3
  go_wp2_with fail
  refine (c_slEqI _ _ _ _ _ _ _ (b3.up good_I uu2) (e3.up good_I uu2)).mono ?_
  rintro r w3 ⟨bb, rfl, hbb, u3⟩
  have uu3 := uu2.trans u3
  have kx3 := kx2.up u3
  have ky3 := ky2.up u3
  clear u3
  rcases eqb_cases hbb with ⟨rfl, e_3⟩ | ⟨rfl, e_3⟩
  · clear hbb
    have HE : Hid (¬ (x0, x1, x2, x3) = (x0, x1, x2, y3)) := by unfold Hid; intro hh; (try simp only [Prod.mk.injEq] at hh); exact e_3 (by simp [hh])
    clear e_3
    go_wp2_with fail
    go_ret
    exact EqP.f HE.out uu3
  clear hbb
  subst e_3
  go_wp2_with fail
  go_ret
  exact EqP.t (by simp) uu3



end Go.Proofs.Ytgdcdfpnogiciaa
