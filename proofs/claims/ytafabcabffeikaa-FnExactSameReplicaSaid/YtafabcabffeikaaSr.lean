/-
  SameReplica: the program and the reference.
-/
import Derived.Test.YtafabcabffeikaaSl
import Derived.Test.YtafabcabffeikaaFun
import Derived.Test.YtafabcabffeikaaLz
import Derived.Test.YtafabcabffeikaaLe
import Derived.Test.YtafabcabffeikaaLt
import Derived.Shelf.Abstract
import Derived.Deep.RegionHeld3
namespace Go.Proofs.Ytafabcabffeikaa
open Go.RowKit
set_option linter.unusedSimpArgs false
set_option linter.unusedVariables false

theorem c_SameSubs (xs ys : List ByteArray) (A B : Option Addr) (c d : Nat) (w : World) (h : SRW shS w A c xs) (k : SRW shS w B d ys) : Calls Try.prog 147 #[.slice A xs.length c, .slice B ys.length d] w (EqP (xs = ys) w) := by
  go_enter Try.func147, Try.ntmps147
  go_wp2_with fail
  refine (c_l02Same _ _ _ _ _ _ _ h k).mono ?_
  rintro e w1 ⟨b, rfl, hb, u1⟩
  have HB := Lib.hid hb; clear hb
  go_wp2_with fail
  go_ret
  exact ⟨b, rfl, HB.out, u1⟩
set_option maxHeartbeats 1000000 in
theorem c_sameNode (v u : Value) (x y : TNode) (w : World) (h : AV shNode w v x) (k : AV shNode w u y) :
    Calls Try.prog 151 #[v, u] w (EqP (x = y) w) := by
  obtain ⟨cs, rfl, h⟩ := h
  obtain ⟨x0, x1, x2⟩ := x
  have ho := openNode h
  try dsimp only at ho
  obtain ⟨A1, c1, rfl, b0, b1, b2⟩ := ho
  obtain ⟨ds, rfl, k⟩ := k
  obtain ⟨y0, y1, y2⟩ := y
  have ko := openNode k
  try dsimp only at ko
  obtain ⟨B1, d1, rfl, e0, e1, e2⟩ := ko
  have kx0 : Bk ((w.alloc (.cells #[.string x0, .slice A1 x1.length c1, .string x2] 188)).alloc (.cells #[.string y0, .slice B1 y1.length d1, .string y2] 188)) w.heap.size 188 #[.string x0, .slice A1 x1.length c1, .string x2] := (Bk.new _ _ _).alloc _
  have ky0 : Bk ((w.alloc (.cells #[.string x0, .slice A1 x1.length c1, .string x2] 188)).alloc (.cells #[.string y0, .slice B1 y1.length d1, .string y2] 188)) (w.heap.size + 1) 188 #[.string y0, .slice B1 y1.length d1, .string y2] := by simpa using Bk.new (w.alloc (.cells #[.string x0, .slice A1 x1.length c1, .string x2] 188)) 188 #[.string y0, .slice B1 y1.length d1, .string y2]
  have uu0 : Up w ((w.alloc (.cells #[.string x0, .slice A1 x1.length c1, .string x2] 188)).alloc (.cells #[.string y0, .slice B1 y1.length d1, .string y2] 188)) := ((Up.refl _).alloc _).alloc _
  by_cases e_0 : ¬ x0 = y0
  · have hx : (x0.toList == y0.toList) = false := by rw [str_beq]; simp [e_0]
    have HE : Hid (¬ (x0, x1, x2) = (y0, y1, y2)) := by unfold Hid; intro hh; (try simp only [Prod.mk.injEq] at hh); exact e_0 (by simp [hh])
    clear e_0
    go_enter Try.func151, Try.ntmps151
    go_wp2_with fail
    go_ret
    exact EqP.f HE.out uu0
  replace e_0 := Decidable.of_not_not e_0
  subst e_0
  by_cases e_2 : ¬ x2 = y2
  · have hx : (x2.toList == y2.toList) = false := by rw [str_beq]; simp [e_2]
    have HE : Hid (¬ (x0, x1, x2) = (x0, y1, y2)) := by unfold Hid; intro hh; (try simp only [Prod.mk.injEq] at hh); exact e_2 (by simp [hh])
    clear e_2
    go_enter Try.func151, Try.ntmps151
    go_wp2_with fail
    go_ret
    exact EqP.f HE.out uu0
  replace e_2 := Decidable.of_not_not e_2
  subst e_2
  go_enter Try.func151, Try.ntmps151
  go_wp2_with fail
  refine (c_slEqS _ _ _ _ _ _ _ (b1.up good_S uu0) (e1.up good_S uu0)).mono ?_
  rintro r w1 ⟨bb, rfl, hbb, u1⟩
  have uu1 := uu0.trans u1
  have kx1 := kx0.up u1
  have ky1 := ky0.up u1
  clear u1
  rcases eqb_cases hbb with ⟨rfl, e_1⟩ | ⟨rfl, e_1⟩
  · clear hbb
    have HE : Hid (¬ (x0, x1, x2) = (x0, y1, x2)) := by unfold Hid; intro hh; (try simp only [Prod.mk.injEq] at hh); exact e_1 (by simp [hh])
    clear e_1
    go_wp2_with fail
    go_ret
    exact EqP.f HE.out uu1
  clear hbb
  subst e_1
  have gx1_0 : w1.cell? ⟨w.heap.size, 0, none⟩ = some (.string x0) := kx1.cell 0
  have gy1_0 : w1.cell? ⟨w.heap.size + 1, 0, none⟩ = some (.string x0) := ky1.cell 0
  have gx1_1 : w1.cell? ⟨w.heap.size, 1, none⟩ = some (.slice A1 x1.length c1) := kx1.cell 1
  have gy1_1 : w1.cell? ⟨w.heap.size + 1, 1, none⟩ = some (.slice B1 x1.length d1) := ky1.cell 1
  have gx1_2 : w1.cell? ⟨w.heap.size, 2, none⟩ = some (.string x2) := kx1.cell 2
  have gy1_2 : w1.cell? ⟨w.heap.size + 1, 2, none⟩ = some (.string x2) := ky1.cell 2
  go_wp2_with fail
  go_ret
  exact EqP.t (by simp) uu1

set_option maxHeartbeats 1000000 in
theorem c_l03SameNode (v u : Value) (x y : TNode) (w : World) (h : AV shNode w v x) (k : AV shNode w u y) :
    Calls Try.prog 146 #[v, u] w (EqP (x = y) w) := by
  obtain ⟨cs, rfl, h⟩ := h
  obtain ⟨x0, x1, x2⟩ := x
  have ho := openNode h
  try dsimp only at ho
  obtain ⟨A1, c1, rfl, b0, b1, b2⟩ := ho
  obtain ⟨ds, rfl, k⟩ := k
  obtain ⟨y0, y1, y2⟩ := y
  have ko := openNode k
  try dsimp only at ko
  obtain ⟨B1, d1, rfl, e0, e1, e2⟩ := ko
  have kx0 : Bk ((w.alloc (.cells #[.string x0, .slice A1 x1.length c1, .string x2] 188)).alloc (.cells #[.string y0, .slice B1 y1.length d1, .string y2] 188)) w.heap.size 188 #[.string x0, .slice A1 x1.length c1, .string x2] := (Bk.new _ _ _).alloc _
  have ky0 : Bk ((w.alloc (.cells #[.string x0, .slice A1 x1.length c1, .string x2] 188)).alloc (.cells #[.string y0, .slice B1 y1.length d1, .string y2] 188)) (w.heap.size + 1) 188 #[.string y0, .slice B1 y1.length d1, .string y2] := by simpa using Bk.new (w.alloc (.cells #[.string x0, .slice A1 x1.length c1, .string x2] 188)) 188 #[.string y0, .slice B1 y1.length d1, .string y2]
  have uu0 : Up w ((w.alloc (.cells #[.string x0, .slice A1 x1.length c1, .string x2] 188)).alloc (.cells #[.string y0, .slice B1 y1.length d1, .string y2] 188)) := ((Up.refl _).alloc _).alloc _
  by_cases e_0 : ¬ x0 = y0
  · have hx : (x0.toList == y0.toList) = false := by rw [str_beq]; simp [e_0]
    have HE : Hid (¬ (x0, x1, x2) = (y0, y1, y2)) := by unfold Hid; intro hh; (try simp only [Prod.mk.injEq] at hh); exact e_0 (by simp [hh])
    clear e_0
    go_enter Try.func146, Try.ntmps146
    go_wp2_with fail
    go_ret
    exact EqP.f HE.out uu0
  replace e_0 := Decidable.of_not_not e_0
  subst e_0
  by_cases e_2 : ¬ x2 = y2
  · have hx : (x2.toList == y2.toList) = false := by rw [str_beq]; simp [e_2]
    have HE : Hid (¬ (x0, x1, x2) = (x0, y1, y2)) := by unfold Hid; intro hh; (try simp only [Prod.mk.injEq] at hh); exact e_2 (by simp [hh])
    clear e_2
    go_enter Try.func146, Try.ntmps146
    go_wp2_with fail
    go_ret
    exact EqP.f HE.out uu0
  replace e_2 := Decidable.of_not_not e_2
  subst e_2
  go_enter Try.func146, Try.ntmps146
  go_wp2_with fail
  refine (c_SameSubs _ _ _ _ _ _ _ (b1.up good_S uu0) (e1.up good_S uu0)).mono ?_
  rintro r w1 ⟨bb, rfl, hbb, u1⟩
  have uu1 := uu0.trans u1
  have kx1 := kx0.up u1
  have ky1 := ky0.up u1
  clear u1
  rcases eqb_cases hbb with ⟨rfl, e_1⟩ | ⟨rfl, e_1⟩
  · clear hbb
    have HE : Hid (¬ (x0, x1, x2) = (x0, y1, x2)) := by unfold Hid; intro hh; (try simp only [Prod.mk.injEq] at hh); exact e_1 (by simp [hh])
    clear e_1
    go_wp2_with fail
    go_ret
    exact EqP.f HE.out uu1
  clear hbb
  subst e_1
  have gx1_0 : w1.cell? ⟨w.heap.size, 0, none⟩ = some (.string x0) := kx1.cell 0
  have gy1_0 : w1.cell? ⟨w.heap.size + 1, 0, none⟩ = some (.string x0) := ky1.cell 0
  have gx1_1 : w1.cell? ⟨w.heap.size, 1, none⟩ = some (.slice A1 x1.length c1) := kx1.cell 1
  have gy1_1 : w1.cell? ⟨w.heap.size + 1, 1, none⟩ = some (.slice B1 x1.length d1) := ky1.cell 1
  have gx1_2 : w1.cell? ⟨w.heap.size, 2, none⟩ = some (.string x2) := kx1.cell 2
  have gy1_2 : w1.cell? ⟨w.heap.size + 1, 2, none⟩ = some (.string x2) := ky1.cell 2
  go_wp2_with fail
  go_ret
  exact EqP.t (by simp) uu1

set_option maxHeartbeats 1000000 in
theorem c_sameImage (v u : Value) (x y : TImage) (w : World) (h : AV shImage w v x) (k : AV shImage w u y) :
    Calls Try.prog 153 #[v, u] w (EqP (x = y) w) := by
  obtain ⟨cs, rfl, h⟩ := h
  obtain ⟨x0, x1, x2, x3, x4, x5⟩ := x
  have ho := openImage h
  try dsimp only at ho
  obtain ⟨A1, c1, rfl, b0, b1, b3, b5⟩ := ho
  obtain ⟨ds, rfl, k⟩ := k
  obtain ⟨y0, y1, y2, y3, y4, y5⟩ := y
  have ko := openImage k
  try dsimp only at ko
  obtain ⟨B1, d1, rfl, e0, e1, e3, e5⟩ := ko
  have kx0 : Bk ((w.alloc (.cells #[.string x0, .slice A1 x1.length c1, .bool x2, .string x3, .bool x4, .string x5] 190)).alloc (.cells #[.string y0, .slice B1 y1.length d1, .bool y2, .string y3, .bool y4, .string y5] 190)) w.heap.size 190 #[.string x0, .slice A1 x1.length c1, .bool x2, .string x3, .bool x4, .string x5] := (Bk.new _ _ _).alloc _
  have ky0 : Bk ((w.alloc (.cells #[.string x0, .slice A1 x1.length c1, .bool x2, .string x3, .bool x4, .string x5] 190)).alloc (.cells #[.string y0, .slice B1 y1.length d1, .bool y2, .string y3, .bool y4, .string y5] 190)) (w.heap.size + 1) 190 #[.string y0, .slice B1 y1.length d1, .bool y2, .string y3, .bool y4, .string y5] := by simpa using Bk.new (w.alloc (.cells #[.string x0, .slice A1 x1.length c1, .bool x2, .string x3, .bool x4, .string x5] 190)) 190 #[.string y0, .slice B1 y1.length d1, .bool y2, .string y3, .bool y4, .string y5]
  have uu0 : Up w ((w.alloc (.cells #[.string x0, .slice A1 x1.length c1, .bool x2, .string x3, .bool x4, .string x5] 190)).alloc (.cells #[.string y0, .slice B1 y1.length d1, .bool y2, .string y3, .bool y4, .string y5] 190)) := ((Up.refl _).alloc _).alloc _
  by_cases e_0 : ¬ x0 = y0
  · have hx : (x0.toList == y0.toList) = false := by rw [str_beq]; simp [e_0]
    have HE : Hid (¬ (x0, x1, x2, x3, x4, x5) = (y0, y1, y2, y3, y4, y5)) := by unfold Hid; intro hh; (try simp only [Prod.mk.injEq] at hh); exact e_0 (by simp [hh])
    clear e_0
    go_enter Try.func153, Try.ntmps153
    go_wp2_with fail
    go_ret
    exact EqP.f HE.out uu0
  replace e_0 := Decidable.of_not_not e_0
  subst e_0
  go_enter Try.func153, Try.ntmps153
  go_wp2_with fail
  refine (c_slEqS _ _ _ _ _ _ _ (b1.up good_S uu0) (e1.up good_S uu0)).mono ?_
  rintro r w1 ⟨bb, rfl, hbb, u1⟩
  have uu1 := uu0.trans u1
  have kx1 := kx0.up u1
  have ky1 := ky0.up u1
  clear u1
  rcases eqb_cases hbb with ⟨rfl, e_1⟩ | ⟨rfl, e_1⟩
  · clear hbb
    have HE : Hid (¬ (x0, x1, x2, x3, x4, x5) = (x0, y1, y2, y3, y4, y5)) := by unfold Hid; intro hh; (try simp only [Prod.mk.injEq] at hh); exact e_1 (by simp [hh])
    clear e_1
    go_wp2_with fail
    go_ret
    exact EqP.f HE.out uu1
  clear hbb
  subst e_1
  have gx1_2 : w1.cell? ⟨w.heap.size, 2, none⟩ = some (.bool x2) := kx1.cell 2
  have gy1_2 : w1.cell? ⟨w.heap.size + 1, 2, none⟩ = some (.bool y2) := ky1.cell 2
  have gx1_3 : w1.cell? ⟨w.heap.size, 3, none⟩ = some (.string x3) := kx1.cell 3
  have gy1_3 : w1.cell? ⟨w.heap.size + 1, 3, none⟩ = some (.string y3) := ky1.cell 3
  have gx1_4 : w1.cell? ⟨w.heap.size, 4, none⟩ = some (.bool x4) := kx1.cell 4
  have gy1_4 : w1.cell? ⟨w.heap.size + 1, 4, none⟩ = some (.bool y4) := ky1.cell 4
  have gx1_5 : w1.cell? ⟨w.heap.size, 5, none⟩ = some (.string x5) := kx1.cell 5
  have gy1_5 : w1.cell? ⟨w.heap.size + 1, 5, none⟩ = some (.string y5) := ky1.cell 5
  by_cases e_2 : ¬ x2 = y2
  · have hx : (x2 == y2) = false := by simp [e_2]
    have HE : Hid (¬ (x0, x1, x2, x3, x4, x5) = (x0, x1, y2, y3, y4, y5)) := by unfold Hid; intro hh; (try simp only [Prod.mk.injEq] at hh); exact e_2 (by simp [hh])
    clear e_2
    cases x2 <;> cases y2
    · simp at hx
    · clear hx
      go_wp2_with fail
      go_ret
      exact EqP.f HE.out uu1
    · clear hx
      go_wp2_with fail
      go_ret
      exact EqP.f HE.out uu1
    · simp at hx
  replace e_2 := Decidable.of_not_not e_2
  subst e_2
  by_cases e_3 : ¬ x3 = y3
  · have hx : (x3.toList == y3.toList) = false := by rw [str_beq]; simp [e_3]
    have HE : Hid (¬ (x0, x1, x2, x3, x4, x5) = (x0, x1, x2, y3, y4, y5)) := by unfold Hid; intro hh; (try simp only [Prod.mk.injEq] at hh); exact e_3 (by simp [hh])
    clear e_3
    go_wp2_with fail
    go_ret
    exact EqP.f HE.out uu1
  replace e_3 := Decidable.of_not_not e_3
  subst e_3
  by_cases e_4 : ¬ x4 = y4
  · have hx : (x4 == y4) = false := by simp [e_4]
    have HE : Hid (¬ (x0, x1, x2, x3, x4, x5) = (x0, x1, x2, x3, y4, y5)) := by unfold Hid; intro hh; (try simp only [Prod.mk.injEq] at hh); exact e_4 (by simp [hh])
    clear e_4
    cases x4 <;> cases y4
    · simp at hx
    · clear hx
      go_wp2_with fail
      go_ret
      exact EqP.f HE.out uu1
    · clear hx
      go_wp2_with fail
      go_ret
      exact EqP.f HE.out uu1
    · simp at hx
  replace e_4 := Decidable.of_not_not e_4
  subst e_4
  by_cases e_5 : ¬ x5 = y5
  · have hx : (x5.toList == y5.toList) = false := by rw [str_beq]; simp [e_5]
    have HE : Hid (¬ (x0, x1, x2, x3, x4, x5) = (x0, x1, x2, x3, x4, y5)) := by unfold Hid; intro hh; (try simp only [Prod.mk.injEq] at hh); exact e_5 (by simp [hh])
    clear e_5
    go_wp2_with fail
    go_ret
    exact EqP.f HE.out uu1
  replace e_5 := Decidable.of_not_not e_5
  subst e_5
  go_wp2_with fail
  go_ret
  exact EqP.t (by simp) uu1

set_option maxRecDepth 100000 in
set_option maxHeartbeats 2000000 in
theorem c_EqualFuncNode (kf : FuncId) (eg : ∀ args w, (callFunc kf args).run Try.prog w = .ok (.enter kf args) w) (xs ys : List TNode) (A B : Option Addr) (c d : Nat) (w : World) (h : SRW shNode w A c xs) (k : SRW shNode w B d ys)
    (hf : ∀ (W : World) (v u : Value) (x y : TNode), Up w W → AV shNode W v x → AV shNode W u y → Calls Try.prog kf #[v, u] W (EqP (x = y) W)) :
    Calls Try.prog 150 #[.slice A xs.length c, .slice B ys.length d, .func (.func kf) #[] #[]] w (EqP (xs = ys) w) := by
  have hlen := h.len_le
  have klen := k.len_le
  have HF := Lib.hid hf; clear hf
  by_cases hl : xs.length = ys.length
  · have hb : ((xs.length : Int) != (ys.length : Int)) = false := by simp [hl]
    have HL := Lib.hid hl; clear hl
    go_enter Try.func150, Try.ntmps150
    go_wp2_with fail
    go_loopw [17] (fun i wr => ∃ k : Nat, k ≤ xs.length ∧ i = .int .i64 k ∧ Hid (xs.take k = ys.take k) ∧ Up w wr) (fun i _ => xs.length - (intOf i).toNat)
    case atStart => exact ⟨0, Nat.zero_le _, rfl, rfl, Up.refl _⟩
    case round =>
      obtain ⟨j, hj, rfl, HT, hu⟩ := hrel
      by_cases hlt : j < xs.length
      · have hlt' : j < ys.length := by rw [← HL.out]; exact hlt
        obtain ⟨g, off, A1, c1, rfl, _, hg1, hc0, hc1, hc2, b0, b1, b2, _⟩ := atNode (h.up good_Node hu) hlt
        obtain ⟨g', off', B1, d1, rfl, _, hg2, hd0, hd1, hd2, f0, f1, f2, _⟩ := atNode (k.up good_Node hu) hlt'
        have U2 : Up wr ((wr.alloc (.cells #[.string xs[j].1, .slice A1 xs[j].2.1.length c1, .string xs[j].2.2] 188)).alloc (.cells #[.string ys[j].1, .slice B1 ys[j].2.1.length d1, .string ys[j].2.2] 188)) := ((Up.refl _).alloc _).alloc _
        go_wp2_with fail
        refine (HF.out _ _ _ xs[j] ys[j] (hu.trans U2) (AV.up good_Node ⟨_, rfl, mkNode (x := xs[j]) b0 b1 b2⟩ U2) (AV.up good_Node ⟨_, rfl, mkNode (x := ys[j]) f0 f1 f2⟩ U2)).mono ?_
        rintro e w1 ⟨bb, rfl, hbb, hu1⟩
        rcases (eqb_cases hbb).symm with ⟨rfl, he⟩ | ⟨rfl, he⟩
        · clear hbb
          have HE := Lib.hid he; clear he
          go_wp2_with fail
          go_roundw
          case rel => exact ⟨j + 1, by omega, by go_num, take_snoc_eq HT.out hlt hlt' HE.out, (hu.trans U2).trans hu1⟩
          case measure => simp [intOf]; omega
        · clear hbb
          have HE := Lib.hid (ne_of_at hlt hlt' he); clear he
          go_wp2_with fail
          go_ret
          exact EqP.f HE.out ((hu.trans U2).trans hu1)
      · have HE := Lib.hid (take_all_eq HT.out (by omega) (by rw [← HL.out]; omega))
        go_wp2_with fail
        go_ret
        exact EqP.t HE.out hu
  · have hb : ((xs.length : Int) != (ys.length : Int)) = true := by rw [bne_iff_ne]; omega
    have HE := Lib.hid (ne_of_len hl); clear hl
    go_enter Try.func150, Try.ntmps150
    go_wp2_with fail
    go_ret
    exact EqP.f HE.out (Up.refl _)

set_option maxRecDepth 100000 in
set_option maxHeartbeats 2000000 in
theorem c_EqualFuncImage (kf : FuncId) (eg : ∀ args w, (callFunc kf args).run Try.prog w = .ok (.enter kf args) w) (xs ys : List TImage) (A B : Option Addr) (c d : Nat) (w : World) (h : SRW shImage w A c xs) (k : SRW shImage w B d ys)
    (hf : ∀ (W : World) (v u : Value) (x y : TImage), Up w W → AV shImage W v x → AV shImage W u y → Calls Try.prog kf #[v, u] W (EqP (x = y) W)) :
    Calls Try.prog 152 #[.slice A xs.length c, .slice B ys.length d, .func (.func kf) #[] #[]] w (EqP (xs = ys) w) := by
  have hlen := h.len_le
  have klen := k.len_le
  have HF := Lib.hid hf; clear hf
  by_cases hl : xs.length = ys.length
  · have hb : ((xs.length : Int) != (ys.length : Int)) = false := by simp [hl]
    have HL := Lib.hid hl; clear hl
    go_enter Try.func152, Try.ntmps152
    go_wp2_with fail
    go_loopw [17] (fun i wr => ∃ k : Nat, k ≤ xs.length ∧ i = .int .i64 k ∧ Hid (xs.take k = ys.take k) ∧ Up w wr) (fun i _ => xs.length - (intOf i).toNat)
    case atStart => exact ⟨0, Nat.zero_le _, rfl, rfl, Up.refl _⟩
    case round =>
      obtain ⟨j, hj, rfl, HT, hu⟩ := hrel
      by_cases hlt : j < xs.length
      · have hlt' : j < ys.length := by rw [← HL.out]; exact hlt
        obtain ⟨g, off, A1, c1, rfl, _, hg1, hc0, hc1, hc2, hc3, hc4, hc5, b0, b1, b3, b5, _⟩ := atImage (h.up good_Image hu) hlt
        obtain ⟨g', off', B1, d1, rfl, _, hg2, hd0, hd1, hd2, hd3, hd4, hd5, f0, f1, f3, f5, _⟩ := atImage (k.up good_Image hu) hlt'
        have U2 : Up wr ((wr.alloc (.cells #[.string xs[j].1, .slice A1 xs[j].2.1.length c1, .bool xs[j].2.2.1, .string xs[j].2.2.2.1, .bool xs[j].2.2.2.2.1, .string xs[j].2.2.2.2.2] 190)).alloc (.cells #[.string ys[j].1, .slice B1 ys[j].2.1.length d1, .bool ys[j].2.2.1, .string ys[j].2.2.2.1, .bool ys[j].2.2.2.2.1, .string ys[j].2.2.2.2.2] 190)) := ((Up.refl _).alloc _).alloc _
        go_wp2_with fail
        refine (HF.out _ _ _ xs[j] ys[j] (hu.trans U2) (AV.up good_Image ⟨_, rfl, mkImage (x := xs[j]) b0 b1 b3 b5⟩ U2) (AV.up good_Image ⟨_, rfl, mkImage (x := ys[j]) f0 f1 f3 f5⟩ U2)).mono ?_
        rintro e w1 ⟨bb, rfl, hbb, hu1⟩
        rcases (eqb_cases hbb).symm with ⟨rfl, he⟩ | ⟨rfl, he⟩
        · clear hbb
          have HE := Lib.hid he; clear he
          go_wp2_with fail
          go_roundw
          case rel => exact ⟨j + 1, by omega, by go_num, take_snoc_eq HT.out hlt hlt' HE.out, (hu.trans U2).trans hu1⟩
          case measure => simp [intOf]; omega
        · clear hbb
          have HE := Lib.hid (ne_of_at hlt hlt' he); clear he
          go_wp2_with fail
          go_ret
          exact EqP.f HE.out ((hu.trans U2).trans hu1)
      · have HE := Lib.hid (take_all_eq HT.out (by omega) (by rw [← HL.out]; omega))
        go_wp2_with fail
        go_ret
        exact EqP.t HE.out hu
  · have hb : ((xs.length : Int) != (ys.length : Int)) = true := by rw [bne_iff_ne]; omega
    have HE := Lib.hid (ne_of_len hl); clear hl
    go_enter Try.func152, Try.ntmps152
    go_wp2_with fail
    go_ret
    exact EqP.f HE.out (Up.refl _)

set_option maxRecDepth 100000 in
set_option maxHeartbeats 2000000 in
theorem c_EqualFuncParcel (kf : FuncId) (eg : ∀ args w, (callFunc kf args).run Try.prog w = .ok (.enter kf args) w) (xs ys : List TParcel) (A B : Option Addr) (c d : Nat) (w : World) (h : SRW shParcel w A c xs) (k : SRW shParcel w B d ys)
    (hf : ∀ (W : World) (v u : Value) (x y : TParcel), Up w W → AV shParcel W v x → AV shParcel W u y → Calls Try.prog kf #[v, u] W (EqP (x = y) W)) :
    Calls Try.prog 111 #[.slice A xs.length c, .slice B ys.length d, .func (.func kf) #[] #[]] w (EqP (xs = ys) w) := by
  have hlen := h.len_le
  have klen := k.len_le
  have HF := Lib.hid hf; clear hf
  by_cases hl : xs.length = ys.length
  · have hb : ((xs.length : Int) != (ys.length : Int)) = false := by simp [hl]
    have HL := Lib.hid hl; clear hl
    go_enter Try.func111, Try.ntmps111
    go_wp2_with fail
    go_loopw [17] (fun i wr => ∃ k : Nat, k ≤ xs.length ∧ i = .int .i64 k ∧ Hid (xs.take k = ys.take k) ∧ Up w wr) (fun i _ => xs.length - (intOf i).toNat)
    case atStart => exact ⟨0, Nat.zero_le _, rfl, rfl, Up.refl _⟩
    case round =>
      obtain ⟨j, hj, rfl, HT, hu⟩ := hrel
      by_cases hlt : j < xs.length
      · have hlt' : j < ys.length := by rw [← HL.out]; exact hlt
        obtain ⟨g, off, A1, c1, rfl, _, hg1, hc0, hc1, b0, b1, _⟩ := atParcel (h.up good_Parcel hu) hlt
        obtain ⟨g', off', B1, d1, rfl, _, hg2, hd0, hd1, f0, f1, _⟩ := atParcel (k.up good_Parcel hu) hlt'
        have U2 : Up wr ((wr.alloc (.cells #[.int .i64 xs[j].1, .slice A1 xs[j].2.length c1] 145)).alloc (.cells #[.int .i64 ys[j].1, .slice B1 ys[j].2.length d1] 145)) := ((Up.refl _).alloc _).alloc _
        go_wp2_with fail
        refine (HF.out _ _ _ xs[j] ys[j] (hu.trans U2) (AV.up good_Parcel ⟨_, rfl, mkParcel (x := xs[j]) b0 b1⟩ U2) (AV.up good_Parcel ⟨_, rfl, mkParcel (x := ys[j]) f0 f1⟩ U2)).mono ?_
        rintro e w1 ⟨bb, rfl, hbb, hu1⟩
        rcases (eqb_cases hbb).symm with ⟨rfl, he⟩ | ⟨rfl, he⟩
        · clear hbb
          have HE := Lib.hid he; clear he
          go_wp2_with fail
          go_roundw
          case rel => exact ⟨j + 1, by omega, by go_num, take_snoc_eq HT.out hlt hlt' HE.out, (hu.trans U2).trans hu1⟩
          case measure => simp [intOf]; omega
        · clear hbb
          have HE := Lib.hid (ne_of_at hlt hlt' he); clear he
          go_wp2_with fail
          go_ret
          exact EqP.f HE.out ((hu.trans U2).trans hu1)
      · have HE := Lib.hid (take_all_eq HT.out (by omega) (by rw [← HL.out]; omega))
        go_wp2_with fail
        go_ret
        exact EqP.t HE.out hu
  · have hb : ((xs.length : Int) != (ys.length : Int)) = true := by rw [bne_iff_ne]; omega
    have HE := Lib.hid (ne_of_len hl); clear hl
    go_enter Try.func111, Try.ntmps111
    go_wp2_with fail
    go_ret
    exact EqP.f HE.out (Up.refl _)


set_option maxRecDepth 100000 in
theorem eg_sameNode : ∀ args w, (callFunc 151 args).run Try.prog w = .ok (.enter 151 args) w := enters_of Try.func151 (by kernel_rfl) rfl
theorem c_EqNodes (xs ys : List TNode) (A B : Option Addr) (c d : Nat) (w : World) (h : SRW shNode w A c xs) (k : SRW shNode w B d ys) : Calls Try.prog 150 #[.slice A xs.length c, .slice B ys.length d, .func (.func 151) #[] #[]] w (EqP (xs = ys) w) :=
  c_EqualFuncNode 151 eg_sameNode xs ys A B c d w h k (fun W v u x y _ hx hy => c_sameNode v u x y W hx hy)

set_option maxRecDepth 100000 in
theorem eg_sameImage : ∀ args w, (callFunc 153 args).run Try.prog w = .ok (.enter 153 args) w := enters_of Try.func153 (by kernel_rfl) rfl
theorem c_EqImages (xs ys : List TImage) (A B : Option Addr) (c d : Nat) (w : World) (h : SRW shImage w A c xs) (k : SRW shImage w B d ys) : Calls Try.prog 152 #[.slice A xs.length c, .slice B ys.length d, .func (.func 153) #[] #[]] w (EqP (xs = ys) w) :=
  c_EqualFuncImage 153 eg_sameImage xs ys A B c d w h k (fun W v u x y _ hx hy => c_sameImage v u x y W hx hy)
set_option maxHeartbeats 1000000 in
theorem c_sameParcel (v u : Value) (x y : TParcel) (w : World) (h : AV shParcel w v x) (k : AV shParcel w u y) :
    Calls Try.prog 112 #[v, u] w (EqP (x = y) w) := by
  obtain ⟨cs, rfl, h⟩ := h
  obtain ⟨x0, x1⟩ := x
  have ho := openParcel h
  try dsimp only at ho
  obtain ⟨A1, c1, rfl, b0, b1⟩ := ho
  obtain ⟨ds, rfl, k⟩ := k
  obtain ⟨y0, y1⟩ := y
  have ko := openParcel k
  try dsimp only at ko
  obtain ⟨B1, d1, rfl, e0, e1⟩ := ko
  have kx0 : Bk ((w.alloc (.cells #[.int .i64 x0, .slice A1 x1.length c1] 145)).alloc (.cells #[.int .i64 y0, .slice B1 y1.length d1] 145)) w.heap.size 145 #[.int .i64 x0, .slice A1 x1.length c1] := (Bk.new _ _ _).alloc _
  have ky0 : Bk ((w.alloc (.cells #[.int .i64 x0, .slice A1 x1.length c1] 145)).alloc (.cells #[.int .i64 y0, .slice B1 y1.length d1] 145)) (w.heap.size + 1) 145 #[.int .i64 y0, .slice B1 y1.length d1] := by simpa using Bk.new (w.alloc (.cells #[.int .i64 x0, .slice A1 x1.length c1] 145)) 145 #[.int .i64 y0, .slice B1 y1.length d1]
  have uu0 : Up w ((w.alloc (.cells #[.int .i64 x0, .slice A1 x1.length c1] 145)).alloc (.cells #[.int .i64 y0, .slice B1 y1.length d1] 145)) := ((Up.refl _).alloc _).alloc _
  by_cases e_0 : ¬ x0 = y0
  · have hx : (x0 == y0) = false := by simp [e_0]
    have HE : Hid (¬ (x0, x1) = (y0, y1)) := by unfold Hid; intro hh; (try simp only [Prod.mk.injEq] at hh); exact e_0 (by simp [hh])
    clear e_0
    go_enter Try.func112, Try.ntmps112
    go_wp2_with fail
    go_ret
    exact EqP.f HE.out uu0
  replace e_0 := Decidable.of_not_not e_0
  subst e_0
  go_enter Try.func112, Try.ntmps112
  go_wp2_with fail
  refine (c_EqImages _ _ _ _ _ _ _ (b1.up good_Image uu0) (e1.up good_Image uu0)).mono ?_
  rintro r w1 ⟨bb, rfl, hbb, u1⟩
  have uu1 := uu0.trans u1
  have kx1 := kx0.up u1
  have ky1 := ky0.up u1
  clear u1
  rcases eqb_cases hbb with ⟨rfl, e_1⟩ | ⟨rfl, e_1⟩
  · clear hbb
    have HE : Hid (¬ (x0, x1) = (x0, y1)) := by unfold Hid; intro hh; (try simp only [Prod.mk.injEq] at hh); exact e_1 (by simp [hh])
    clear e_1
    go_wp2_with fail
    go_ret
    exact EqP.f HE.out uu1
  clear hbb
  subst e_1
  go_wp2_with fail
  go_ret
  exact EqP.t (by simp) uu1


set_option maxRecDepth 100000 in
theorem eg_sameParcel : ∀ args w, (callFunc 112 args).run Try.prog w = .ok (.enter 112 args) w := enters_of Try.func112 (by kernel_rfl) rfl
theorem c_EqParcels (xs ys : List TParcel) (A B : Option Addr) (c d : Nat) (w : World) (h : SRW shParcel w A c xs) (k : SRW shParcel w B d ys) : Calls Try.prog 111 #[.slice A xs.length c, .slice B ys.length d, .func (.func 112) #[] #[]] w (EqP (xs = ys) w) :=
  c_EqualFuncParcel 112 eg_sameParcel xs ys A B c d w h k (fun W v u x y _ hx hy => c_sameParcel v u x y W hx hy)
set_option maxHeartbeats 1000000 in
theorem c_implSameTree (v u : Value) (x y : TTree) (w : World) (h : AV shTree w v x) (k : AV shTree w u y) :
    Calls Try.prog 110 #[v, u] w (EqP (x = y) w) := by
  obtain ⟨cs, rfl, h⟩ := h
  obtain ⟨x0, rfl⟩ : ∃ q, q = x := ⟨_, rfl⟩
  have ho := openTree h
  try dsimp only at ho
  obtain ⟨A0, c0, rfl, b0⟩ := ho
  obtain ⟨ds, rfl, k⟩ := k
  obtain ⟨y0, rfl⟩ : ∃ q, q = y := ⟨_, rfl⟩
  have ko := openTree k
  try dsimp only at ko
  obtain ⟨B0, d0, rfl, e0⟩ := ko
  have kx0 : Bk ((w.alloc (.cells #[.slice A0 x0.length c0] 83)).alloc (.cells #[.slice B0 y0.length d0] 83)) w.heap.size 83 #[.slice A0 x0.length c0] := (Bk.new _ _ _).alloc _
  have ky0 : Bk ((w.alloc (.cells #[.slice A0 x0.length c0] 83)).alloc (.cells #[.slice B0 y0.length d0] 83)) (w.heap.size + 1) 83 #[.slice B0 y0.length d0] := by simpa using Bk.new (w.alloc (.cells #[.slice A0 x0.length c0] 83)) 83 #[.slice B0 y0.length d0]
  have uu0 : Up w ((w.alloc (.cells #[.slice A0 x0.length c0] 83)).alloc (.cells #[.slice B0 y0.length d0] 83)) := ((Up.refl _).alloc _).alloc _
  go_enter Try.func110, Try.ntmps110
  go_wp2_with fail
  refine (c_EqNodes _ _ _ _ _ _ _ (b0.up good_Node uu0) (e0.up good_Node uu0)).mono ?_
  rintro r w1 ⟨bb, rfl, hbb, u1⟩
  have uu1 := uu0.trans u1
  have kx1 := kx0.up u1
  have ky1 := ky0.up u1
  clear u1
  rcases eqb_cases hbb with ⟨rfl, e_0⟩ | ⟨rfl, e_0⟩
  · clear hbb
    have HE : Hid (¬ x0 = y0) := by unfold Hid; intro hh; (try simp only [Prod.mk.injEq] at hh); exact e_0 (by simp [hh])
    clear e_0
    go_wp2_with fail
    go_ret
    exact EqP.f HE.out uu1
  clear hbb
  subst e_0
  go_wp2_with fail
  go_ret
  exact EqP.t (by simp) uu1

set_option maxHeartbeats 1000000 in
theorem c_implSameReplica (v u : Value) (x y : TReplica) (w : World) (h : AV shReplica w v x) (k : AV shReplica w u y) :
    Calls Try.prog 51 #[v, u] w (EqP (x = y) w) := by
  obtain ⟨cs, rfl, h⟩ := h
  obtain ⟨x0, x1, x2⟩ := x
  have ho := openReplica h
  try dsimp only at ho
  obtain ⟨A0, c0, A2, c2, rfl, b0, b1, b2⟩ := ho
  obtain ⟨ds, rfl, k⟩ := k
  obtain ⟨y0, y1, y2⟩ := y
  have ko := openReplica k
  try dsimp only at ko
  obtain ⟨B0, d0, B2, d2, rfl, e0, e1, e2⟩ := ko
  have kx0 : Bk ((w.alloc (.cells #[.slice A0 x0.length c0, .int .i64 x1, .slice A2 x2.length c2] 86)).alloc (.cells #[.slice B0 y0.length d0, .int .i64 y1, .slice B2 y2.length d2] 86)) w.heap.size 86 #[.slice A0 x0.length c0, .int .i64 x1, .slice A2 x2.length c2] := (Bk.new _ _ _).alloc _
  have ky0 : Bk ((w.alloc (.cells #[.slice A0 x0.length c0, .int .i64 x1, .slice A2 x2.length c2] 86)).alloc (.cells #[.slice B0 y0.length d0, .int .i64 y1, .slice B2 y2.length d2] 86)) (w.heap.size + 1) 86 #[.slice B0 y0.length d0, .int .i64 y1, .slice B2 y2.length d2] := by simpa using Bk.new (w.alloc (.cells #[.slice A0 x0.length c0, .int .i64 x1, .slice A2 x2.length c2] 86)) 86 #[.slice B0 y0.length d0, .int .i64 y1, .slice B2 y2.length d2]
  have uu0 : Up w ((w.alloc (.cells #[.slice A0 x0.length c0, .int .i64 x1, .slice A2 x2.length c2] 86)).alloc (.cells #[.slice B0 y0.length d0, .int .i64 y1, .slice B2 y2.length d2] 86)) := ((Up.refl _).alloc _).alloc _
  go_enter Try.func51, Try.ntmps51
  go_wp2_with fail
  refine (c_implSameTree _ _ x0 y0 _ ⟨_, rfl, mkTree (x := x0) (b0.up good_Node uu0)⟩ ⟨_, rfl, mkTree (x := y0) (e0.up good_Node uu0)⟩).mono ?_
  rintro r w1 ⟨bb, rfl, hbb, u1⟩
  have uu1 := uu0.trans u1
  have kx1 := kx0.up u1
  have ky1 := ky0.up u1
  clear u1
  rcases eqb_cases hbb with ⟨rfl, e_0⟩ | ⟨rfl, e_0⟩
  · clear hbb
    have HE : Hid (¬ (x0, x1, x2) = (y0, y1, y2)) := by unfold Hid; intro hh; (try simp only [Prod.mk.injEq] at hh); exact e_0 (by simp [hh])
    clear e_0
    go_wp2_with fail
    go_ret
    exact EqP.f HE.out uu1
  clear hbb
  subst e_0
  have gx1_1 : w1.cell? ⟨w.heap.size, 1, none⟩ = some (.int .i64 x1) := kx1.cell 1
  have gy1_1 : w1.cell? ⟨w.heap.size + 1, 1, none⟩ = some (.int .i64 y1) := ky1.cell 1
  have gx1_2 : w1.cell? ⟨w.heap.size, 2, none⟩ = some (.slice A2 x2.length c2) := kx1.cell 2
  have gy1_2 : w1.cell? ⟨w.heap.size + 1, 2, none⟩ = some (.slice B2 y2.length d2) := ky1.cell 2
  by_cases e_1 : ¬ x1 = y1
  · have hx : (x1 == y1) = false := by simp [e_1]
    have HE : Hid (¬ (x0, x1, x2) = (x0, y1, y2)) := by unfold Hid; intro hh; (try simp only [Prod.mk.injEq] at hh); exact e_1 (by simp [hh])
    clear e_1
    go_wp2_with fail
    go_ret
    exact EqP.f HE.out uu1
  replace e_1 := Decidable.of_not_not e_1
  subst e_1
  go_wp2_with fail
  refine (c_EqParcels _ _ _ _ _ _ _ (b2.up good_Parcel uu1) (e2.up good_Parcel uu1)).mono ?_
  rintro r w2 ⟨bb, rfl, hbb, u2⟩
  have uu2 := uu1.trans u2
  have kx2 := kx1.up u2
  have ky2 := ky1.up u2
  clear u2
  rcases eqb_cases hbb with ⟨rfl, e_2⟩ | ⟨rfl, e_2⟩
  · clear hbb
    have HE : Hid (¬ (x0, x1, x2) = (x0, x1, y2)) := by unfold Hid; intro hh; (try simp only [Prod.mk.injEq] at hh); exact e_2 (by simp [hh])
    clear e_2
    go_wp2_with fail
    go_ret
    exact EqP.f HE.out uu2
  clear hbb
  subst e_2
  go_wp2_with fail
  go_ret
  exact EqP.t (by simp) uu2

set_option maxRecDepth 100000 in
set_option maxHeartbeats 8000000 in
theorem c_specSameTree (v u : Value) (x y : TTree) (w : World) (h : AV shTree w v x) (k : AV shTree w u y) :
    Calls Try.prog 106 #[v, u] w (EqP (x = y) w) := by
  obtain ⟨cs, rfl, h⟩ := h
  obtain ⟨ds, rfl, k⟩ := k
  obtain ⟨A0, c0, rfl, b0⟩ := openTree h
  obtain ⟨B0, d0, rfl, e0⟩ := openTree k
  have u0 : Up w ((w.alloc (.cells #[.slice A0 x.length c0] 83)).alloc (.cells #[.slice B0 y.length d0] 83)) := ((Up.refl _).alloc _).alloc _
  have kx0 : Bk ((w.alloc (.cells #[.slice A0 x.length c0] 83)).alloc (.cells #[.slice B0 y.length d0] 83)) w.heap.size 83 #[.slice A0 x.length c0] := (Bk.new _ _ _).alloc _
  have ky0 : Bk ((w.alloc (.cells #[.slice A0 x.length c0] 83)).alloc (.cells #[.slice B0 y.length d0] 83)) (w.heap.size + 1) 83 #[.slice B0 y.length d0] := by simpa using Bk.new (w.alloc (.cells #[.slice A0 x.length c0] 83)) 83 #[.slice B0 y.length d0]
  have hlen := b0.len_le
  have klen := e0.len_le
  by_cases hl : x.length = y.length
  · have hbn : ((x.length : Int) != (y.length : Int)) = false := by simp [hl]
    have HL := Lib.hid hl; clear hl
    go_enter Try.func106, Try.ntmps106
    go_wp2_with fail
    go_loopw [5] (fun i wr => ∃ k : Nat, k ≤ x.length ∧ i = .int .i64 k ∧ Hid (x.take k = y.take k) ∧ Up w wr ∧ Bk wr w.heap.size 83 #[.slice A0 x.length c0] ∧ Bk wr (w.heap.size + 1) 83 #[.slice B0 y.length d0]) (fun i _ => x.length - (intOf i).toNat)
    case atStart => exact ⟨0, Nat.zero_le _, rfl, rfl, u0, kx0, ky0⟩
    case round =>
      obtain ⟨j, hj, rfl, HT, hu, kx, ky⟩ := hrel
      have gx : wr.cell? ⟨w.heap.size, 0, none⟩ = some (.slice A0 x.length c0) := kx.cell 0
      have gy : wr.cell? ⟨w.heap.size + 1, 0, none⟩ = some (.slice B0 y.length d0) := ky.cell 0
      by_cases hlt : j < x.length
      · have hlt' : j < y.length := by rw [← HL.out]; exact hlt
        obtain ⟨g, off, A1, c1, rfl, _, hg1, hc0, hc1, hc2, f0, f1, f2, _⟩ := atNode (b0.up good_Node hu) hlt
        obtain ⟨g', off', B1, d1, rfl, _, hg2, hd0, hd1, hd2, q0, q1, q2, _⟩ := atNode (e0.up good_Node hu) hlt'
        have tx := fun t : UpT wr => cell_up t gx
        have ty := fun t : UpT wr => cell_up t gy
        have t0 := fun t : UpT wr => cell_up t hc0
        have t1 := fun t : UpT wr => cell_up t hc1
        have t2 := fun t : UpT wr => cell_up t hc2
        have s0 := fun t : UpT wr => cell_up t hd0
        have s1 := fun t : UpT wr => cell_up t hd1
        have s2 := fun t : UpT wr => cell_up t hd2
        by_cases he : x[j] = y[j]
        · have HE := Lib.hid he; clear he
          go_wp2_with fail
          refine wp_region_up (by kernel_rfl) (by kernel_rfl) ?_
          repeat (go_big_quiet_step ((go_at_call 146; exact up_eqt (c_l03SameNode _ _ x[j] y[j] _ (AV.up good_Node ⟨_, rfl, mkNode (x := x[j]) f0 f1 f2⟩ (UpT.up _)) (AV.up good_Node ⟨_, rfl, mkNode (x := y[j]) q0 q1 q2⟩ (UpT.up _))) HE.out (UpT.up _))))
          refine wpQuiet_nil ?_
          rintro _ ⟨⟨w1, u1⟩, rfl⟩
          go_wp2_with fail
          go_roundw
          case rel => exact ⟨j + 1, by omega, by go_num, take_snoc_eq HT.out hlt hlt' HE.out, hu.trans u1, kx.up u1, ky.up u1⟩
          case measure => simp [intOf]; omega
        · have HE := Lib.hid he
          have HN := Lib.hid (ne_of_at hlt hlt' he); clear he
          go_wp2_with fail
          refine wp_region_up (by kernel_rfl) (by kernel_rfl) ?_
          repeat (go_big_quiet_step ((go_at_call 146; exact up_eqf (c_l03SameNode _ _ x[j] y[j] _ (AV.up good_Node ⟨_, rfl, mkNode (x := x[j]) f0 f1 f2⟩ (UpT.up _)) (AV.up good_Node ⟨_, rfl, mkNode (x := y[j]) q0 q1 q2⟩ (UpT.up _))) HE.out (UpT.up _))))
          refine wpQuiet_nil ?_
          rintro _ ⟨⟨w1, u1⟩, rfl⟩
          go_wp2_with fail
          go_ret
          exact EqP.f HN.out (hu.trans u1)
      · have HE := Lib.hid (take_all_eq HT.out (show x.length ≤ j by omega) (by rw [← HL.out]; omega))
        go_wp2_with fail
        go_ret
        exact EqP.t HE.out hu
  · have hbn : ((x.length : Int) != (y.length : Int)) = true := by rw [bne_iff_ne]; omega
    have HE := Lib.hid (ne_of_len hl)
    clear hl
    go_enter Try.func106, Try.ntmps106
    go_wp2_with fail
    go_ret
    exact EqP.f HE.out u0
set_option maxRecDepth 100000 in
set_option maxHeartbeats 8000000 in
theorem c_l23SameImages (xs ys : List TImage) (A B : Option Addr) (c d : Nat) (w : World) (h : SRW shImage w A c xs) (k : SRW shImage w B d ys) : Calls Try.prog 107 #[.slice A xs.length c, .slice B ys.length d] w (EqP (xs = ys) w) := by
  have hlen := h.len_le
  have klen := k.len_le
  by_cases hl : xs.length = ys.length
  rotate_left
  · have hbn : ((xs.length : Int) != (ys.length : Int)) = true := by rw [bne_iff_ne]; omega
    have HE := Lib.hid (ne_of_len hl)
    clear hl
    go_enter Try.func107, Try.ntmps107
    go_wp2_with fail
    go_ret
    exact EqP.f HE.out (Up.refl _)
  have hbn : ((xs.length : Int) != (ys.length : Int)) = false := by simp [hl]
  have HL := Lib.hid hl; clear hl
  go_enter Try.func107, Try.ntmps107
  go_wp2_with fail
  go_loopw [5] (fun i wr => ∃ k : Nat, k ≤ xs.length ∧ i = .int .i64 k ∧ Hid (xs.take k = ys.take k) ∧ Up w wr) (fun i _ => xs.length - (intOf i).toNat)
  case atStart => exact ⟨0, Nat.zero_le _, rfl, rfl, Up.refl _⟩
  case round =>
    obtain ⟨j, hj, rfl, HT, hu⟩ := hrel
    by_cases hlt : j < xs.length
    rotate_left
    · have HE := Lib.hid (take_all_eq HT.out (show xs.length ≤ j by omega) (by rw [← HL.out]; omega))
      go_wp2_with fail
      go_ret
      exact EqP.t HE.out hu
    have hlt' : j < ys.length := by rw [← HL.out]; exact hlt
    obtain ⟨g, off, A1, c1, rfl, _, hg1, hc0, hc1, hc2, hc3, hc4, hc5, f0, f1, f3, f5, _⟩ := atImage (h.up good_Image hu) hlt
    obtain ⟨g', off', B1, d1, rfl, _, hg2, hd0, hd1, hd2, hd3, hd4, hd5, q0, q1, q3, q5, _⟩ := atImage (k.up good_Image hu) hlt'
    have SK : ∀ W : World, Up wr W → (W.cell? ⟨g, off + j * 6, none⟩ = some (.string xs[j].1) ∧ W.cell? ⟨g, off + j * 6 + 1, none⟩ = some (.slice A1 xs[j].2.1.length c1) ∧ W.cell? ⟨g, off + j * 6 + 2, none⟩ = some (.bool xs[j].2.2.1) ∧ W.cell? ⟨g, off + j * 6 + 3, none⟩ = some (.string xs[j].2.2.2.1) ∧ W.cell? ⟨g, off + j * 6 + 4, none⟩ = some (.bool xs[j].2.2.2.2.1) ∧ W.cell? ⟨g, off + j * 6 + 5, none⟩ = some (.string xs[j].2.2.2.2.2) ∧ W.cell? ⟨g', off' + j * 6, none⟩ = some (.string ys[j].1) ∧ W.cell? ⟨g', off' + j * 6 + 1, none⟩ = some (.slice B1 ys[j].2.1.length d1) ∧ W.cell? ⟨g', off' + j * 6 + 2, none⟩ = some (.bool ys[j].2.2.1) ∧ W.cell? ⟨g', off' + j * 6 + 3, none⟩ = some (.string ys[j].2.2.2.1) ∧ W.cell? ⟨g', off' + j * 6 + 4, none⟩ = some (.bool ys[j].2.2.2.2.1) ∧ W.cell? ⟨g', off' + j * 6 + 5, none⟩ = some (.string ys[j].2.2.2.2.2)) := fun W hW => ⟨(hW.cell (cell_lt hc0)).trans hc0, (hW.cell (cell_lt hc1)).trans hc1, (hW.cell (cell_lt hc2)).trans hc2, (hW.cell (cell_lt hc3)).trans hc3, (hW.cell (cell_lt hc4)).trans hc4, (hW.cell (cell_lt hc5)).trans hc5, (hW.cell (cell_lt hd0)).trans hd0, (hW.cell (cell_lt hd1)).trans hd1, (hW.cell (cell_lt hd2)).trans hd2, (hW.cell (cell_lt hd3)).trans hd3, (hW.cell (cell_lt hd4)).trans hd4, (hW.cell (cell_lt hd5)).trans hd5⟩
    go_wp2_with fail
    go_region_held3 (fun W => W.cell? ⟨g, off + j * 6, none⟩ = some (.string xs[j].1) ∧ W.cell? ⟨g, off + j * 6 + 1, none⟩ = some (.slice A1 xs[j].2.1.length c1) ∧ W.cell? ⟨g, off + j * 6 + 2, none⟩ = some (.bool xs[j].2.2.1) ∧ W.cell? ⟨g, off + j * 6 + 3, none⟩ = some (.string xs[j].2.2.2.1) ∧ W.cell? ⟨g, off + j * 6 + 4, none⟩ = some (.bool xs[j].2.2.2.2.1) ∧ W.cell? ⟨g, off + j * 6 + 5, none⟩ = some (.string xs[j].2.2.2.2.2) ∧ W.cell? ⟨g', off' + j * 6, none⟩ = some (.string ys[j].1) ∧ W.cell? ⟨g', off' + j * 6 + 1, none⟩ = some (.slice B1 ys[j].2.1.length d1) ∧ W.cell? ⟨g', off' + j * 6 + 2, none⟩ = some (.bool ys[j].2.2.1) ∧ W.cell? ⟨g', off' + j * 6 + 3, none⟩ = some (.string ys[j].2.2.2.1) ∧ W.cell? ⟨g', off' + j * 6 + 4, none⟩ = some (.bool ys[j].2.2.2.2.1) ∧ W.cell? ⟨g', off' + j * 6 + 5, none⟩ = some (.string ys[j].2.2.2.2.2)) (first | (refine SK _ ?_; repeat (first | with_reducible exact Up.refl wr | with_reducible refine Up.alloc ?_ _ | with_reducible refine Up.drew ?_ | with_reducible refine Up.setCell ?_ (by simp) _))) (first | fail)
    · have k6 : Bk ((wr.drew.alloc (.cells #[.string xs[j].1, .slice A1 xs[j].2.1.length c1, .bool xs[j].2.2.1, .string xs[j].2.2.2.1, .bool xs[j].2.2.2.2.1, .string xs[j].2.2.2.2.2] 190)).alloc (.cells #[.string ys[j].1, .slice B1 ys[j].2.1.length d1, .bool ys[j].2.2.1, .string ys[j].2.2.2.1, .bool ys[j].2.2.2.2.1, .string ys[j].2.2.2.2.2] 190)) (wr.heap.size) 190 #[.string xs[j].1, .slice A1 xs[j].2.1.length c1, .bool xs[j].2.2.1, .string xs[j].2.2.2.1, .bool xs[j].2.2.2.2.1, .string xs[j].2.2.2.2.2] := (Bk.new wr.drew _ _).alloc _
      have k7 : Bk ((wr.drew.alloc (.cells #[.string xs[j].1, .slice A1 xs[j].2.1.length c1, .bool xs[j].2.2.1, .string xs[j].2.2.2.1, .bool xs[j].2.2.2.2.1, .string xs[j].2.2.2.2.2] 190)).alloc (.cells #[.string ys[j].1, .slice B1 ys[j].2.1.length d1, .bool ys[j].2.2.1, .string ys[j].2.2.2.1, .bool ys[j].2.2.2.2.1, .string ys[j].2.2.2.2.2] 190)) (wr.heap.size + 1) 190 #[.string ys[j].1, .slice B1 ys[j].2.1.length d1, .bool ys[j].2.2.1, .string ys[j].2.2.2.1, .bool ys[j].2.2.2.2.1, .string ys[j].2.2.2.2.2] := by simpa using Bk.new (wr.drew.alloc (.cells #[.string xs[j].1, .slice A1 xs[j].2.1.length c1, .bool xs[j].2.2.1, .string xs[j].2.2.2.1, .bool xs[j].2.2.2.2.1, .string xs[j].2.2.2.2.2] 190)) 190 #[.string ys[j].1, .slice B1 ys[j].2.1.length d1, .bool ys[j].2.2.1, .string ys[j].2.2.2.1, .bool ys[j].2.2.2.2.1, .string ys[j].2.2.2.2.2]
      have uw : Up wr ((wr.drew.alloc (.cells #[.string xs[j].1, .slice A1 xs[j].2.1.length c1, .bool xs[j].2.2.1, .string xs[j].2.2.2.1, .bool xs[j].2.2.2.2.1, .string xs[j].2.2.2.2.2] 190)).alloc (.cells #[.string ys[j].1, .slice B1 ys[j].2.1.length d1, .bool ys[j].2.2.1, .string ys[j].2.2.2.1, .bool ys[j].2.2.2.2.1, .string ys[j].2.2.2.2.2] 190)) := (((Up.refl wr).drew).alloc _).alloc _
      have uu : Up w ((wr.drew.alloc (.cells #[.string xs[j].1, .slice A1 xs[j].2.1.length c1, .bool xs[j].2.2.1, .string xs[j].2.2.2.1, .bool xs[j].2.2.2.2.1, .string xs[j].2.2.2.2.2] 190)).alloc (.cells #[.string ys[j].1, .slice B1 ys[j].2.1.length d1, .bool ys[j].2.2.1, .string ys[j].2.2.2.1, .bool ys[j].2.2.2.2.1, .string ys[j].2.2.2.2.2] 190)) := hu.trans uw
      have m6_0 : ((wr.drew.alloc (.cells #[.string xs[j].1, .slice A1 xs[j].2.1.length c1, .bool xs[j].2.2.1, .string xs[j].2.2.2.1, .bool xs[j].2.2.2.2.1, .string xs[j].2.2.2.2.2] 190)).alloc (.cells #[.string ys[j].1, .slice B1 ys[j].2.1.length d1, .bool ys[j].2.2.1, .string ys[j].2.2.2.1, .bool ys[j].2.2.2.2.1, .string ys[j].2.2.2.2.2] 190)).cell? ⟨wr.heap.size, 0, none⟩ = some (.string xs[j].1) := k6.cell 0
      have m7_0 : ((wr.drew.alloc (.cells #[.string xs[j].1, .slice A1 xs[j].2.1.length c1, .bool xs[j].2.2.1, .string xs[j].2.2.2.1, .bool xs[j].2.2.2.2.1, .string xs[j].2.2.2.2.2] 190)).alloc (.cells #[.string ys[j].1, .slice B1 ys[j].2.1.length d1, .bool ys[j].2.2.1, .string ys[j].2.2.2.1, .bool ys[j].2.2.2.2.1, .string ys[j].2.2.2.2.2] 190)).cell? ⟨wr.heap.size + 1, 0, none⟩ = some (.string ys[j].1) := k7.cell 0
      have m6_1 : ((wr.drew.alloc (.cells #[.string xs[j].1, .slice A1 xs[j].2.1.length c1, .bool xs[j].2.2.1, .string xs[j].2.2.2.1, .bool xs[j].2.2.2.2.1, .string xs[j].2.2.2.2.2] 190)).alloc (.cells #[.string ys[j].1, .slice B1 ys[j].2.1.length d1, .bool ys[j].2.2.1, .string ys[j].2.2.2.1, .bool ys[j].2.2.2.2.1, .string ys[j].2.2.2.2.2] 190)).cell? ⟨wr.heap.size, 1, none⟩ = some (.slice A1 xs[j].2.1.length c1) := k6.cell 1
      have m7_1 : ((wr.drew.alloc (.cells #[.string xs[j].1, .slice A1 xs[j].2.1.length c1, .bool xs[j].2.2.1, .string xs[j].2.2.2.1, .bool xs[j].2.2.2.2.1, .string xs[j].2.2.2.2.2] 190)).alloc (.cells #[.string ys[j].1, .slice B1 ys[j].2.1.length d1, .bool ys[j].2.2.1, .string ys[j].2.2.2.1, .bool ys[j].2.2.2.2.1, .string ys[j].2.2.2.2.2] 190)).cell? ⟨wr.heap.size + 1, 1, none⟩ = some (.slice B1 ys[j].2.1.length d1) := k7.cell 1
      have m6_2 : ((wr.drew.alloc (.cells #[.string xs[j].1, .slice A1 xs[j].2.1.length c1, .bool xs[j].2.2.1, .string xs[j].2.2.2.1, .bool xs[j].2.2.2.2.1, .string xs[j].2.2.2.2.2] 190)).alloc (.cells #[.string ys[j].1, .slice B1 ys[j].2.1.length d1, .bool ys[j].2.2.1, .string ys[j].2.2.2.1, .bool ys[j].2.2.2.2.1, .string ys[j].2.2.2.2.2] 190)).cell? ⟨wr.heap.size, 2, none⟩ = some (.bool xs[j].2.2.1) := k6.cell 2
      have m7_2 : ((wr.drew.alloc (.cells #[.string xs[j].1, .slice A1 xs[j].2.1.length c1, .bool xs[j].2.2.1, .string xs[j].2.2.2.1, .bool xs[j].2.2.2.2.1, .string xs[j].2.2.2.2.2] 190)).alloc (.cells #[.string ys[j].1, .slice B1 ys[j].2.1.length d1, .bool ys[j].2.2.1, .string ys[j].2.2.2.1, .bool ys[j].2.2.2.2.1, .string ys[j].2.2.2.2.2] 190)).cell? ⟨wr.heap.size + 1, 2, none⟩ = some (.bool ys[j].2.2.1) := k7.cell 2
      have m6_3 : ((wr.drew.alloc (.cells #[.string xs[j].1, .slice A1 xs[j].2.1.length c1, .bool xs[j].2.2.1, .string xs[j].2.2.2.1, .bool xs[j].2.2.2.2.1, .string xs[j].2.2.2.2.2] 190)).alloc (.cells #[.string ys[j].1, .slice B1 ys[j].2.1.length d1, .bool ys[j].2.2.1, .string ys[j].2.2.2.1, .bool ys[j].2.2.2.2.1, .string ys[j].2.2.2.2.2] 190)).cell? ⟨wr.heap.size, 3, none⟩ = some (.string xs[j].2.2.2.1) := k6.cell 3
      have m7_3 : ((wr.drew.alloc (.cells #[.string xs[j].1, .slice A1 xs[j].2.1.length c1, .bool xs[j].2.2.1, .string xs[j].2.2.2.1, .bool xs[j].2.2.2.2.1, .string xs[j].2.2.2.2.2] 190)).alloc (.cells #[.string ys[j].1, .slice B1 ys[j].2.1.length d1, .bool ys[j].2.2.1, .string ys[j].2.2.2.1, .bool ys[j].2.2.2.2.1, .string ys[j].2.2.2.2.2] 190)).cell? ⟨wr.heap.size + 1, 3, none⟩ = some (.string ys[j].2.2.2.1) := k7.cell 3
      have m6_4 : ((wr.drew.alloc (.cells #[.string xs[j].1, .slice A1 xs[j].2.1.length c1, .bool xs[j].2.2.1, .string xs[j].2.2.2.1, .bool xs[j].2.2.2.2.1, .string xs[j].2.2.2.2.2] 190)).alloc (.cells #[.string ys[j].1, .slice B1 ys[j].2.1.length d1, .bool ys[j].2.2.1, .string ys[j].2.2.2.1, .bool ys[j].2.2.2.2.1, .string ys[j].2.2.2.2.2] 190)).cell? ⟨wr.heap.size, 4, none⟩ = some (.bool xs[j].2.2.2.2.1) := k6.cell 4
      have m7_4 : ((wr.drew.alloc (.cells #[.string xs[j].1, .slice A1 xs[j].2.1.length c1, .bool xs[j].2.2.1, .string xs[j].2.2.2.1, .bool xs[j].2.2.2.2.1, .string xs[j].2.2.2.2.2] 190)).alloc (.cells #[.string ys[j].1, .slice B1 ys[j].2.1.length d1, .bool ys[j].2.2.1, .string ys[j].2.2.2.1, .bool ys[j].2.2.2.2.1, .string ys[j].2.2.2.2.2] 190)).cell? ⟨wr.heap.size + 1, 4, none⟩ = some (.bool ys[j].2.2.2.2.1) := k7.cell 4
      have m6_5 : ((wr.drew.alloc (.cells #[.string xs[j].1, .slice A1 xs[j].2.1.length c1, .bool xs[j].2.2.1, .string xs[j].2.2.2.1, .bool xs[j].2.2.2.2.1, .string xs[j].2.2.2.2.2] 190)).alloc (.cells #[.string ys[j].1, .slice B1 ys[j].2.1.length d1, .bool ys[j].2.2.1, .string ys[j].2.2.2.1, .bool ys[j].2.2.2.2.1, .string ys[j].2.2.2.2.2] 190)).cell? ⟨wr.heap.size, 5, none⟩ = some (.string xs[j].2.2.2.2.2) := k6.cell 5
      have m7_5 : ((wr.drew.alloc (.cells #[.string xs[j].1, .slice A1 xs[j].2.1.length c1, .bool xs[j].2.2.1, .string xs[j].2.2.2.1, .bool xs[j].2.2.2.2.1, .string xs[j].2.2.2.2.2] 190)).alloc (.cells #[.string ys[j].1, .slice B1 ys[j].2.1.length d1, .bool ys[j].2.2.1, .string ys[j].2.2.2.1, .bool ys[j].2.2.2.2.1, .string ys[j].2.2.2.2.2] 190)).cell? ⟨wr.heap.size + 1, 5, none⟩ = some (.string ys[j].2.2.2.2.2) := k7.cell 5
      have n6 := k6.lt
      have n7 := k7.lt
      by_cases e0 : ¬ xs[j].1 = ys[j].1
      · have hx : (xs[j].1.toList == ys[j].1.toList) = false := by rw [str_beq]; simp [e0]
        have HN := Lib.hid (ne_of_at hlt hlt' (fun e => e0 (by rw [e])))
        clear e0
        go_wp2_with fail
        go_ret
        exact EqP.f HN.out uu
      have E0 : Hid (xs[j].1 = ys[j].1) := Classical.not_not.1 e0
      clear e0
      have hx0 : (xs[j].1.toList == ys[j].1.toList) = true := by rw [E0.out]; simp
      go_wp2_with fail
      refine (c_SameSubs _ _ _ _ _ _ _ (f1.up good_S uw) (q1.up good_S uw)).mono ?_
      rintro e w1 ⟨b1, rfl, hb1, u1⟩
      have uu1 := uu.trans u1
      clear m6_0 m7_0 m6_1 m7_1 m6_2 m7_2 m6_3 m7_3 m6_4 m7_4 m6_5 m7_5
      have k6b := k6.up u1
      have k7b := k7.up u1
      have m6_2 : w1.cell? ⟨wr.heap.size, 2, none⟩ = some (.bool xs[j].2.2.1) := k6b.cell 2
      have m7_2 : w1.cell? ⟨wr.heap.size + 1, 2, none⟩ = some (.bool ys[j].2.2.1) := k7b.cell 2
      have m6_3 : w1.cell? ⟨wr.heap.size, 3, none⟩ = some (.string xs[j].2.2.2.1) := k6b.cell 3
      have m7_3 : w1.cell? ⟨wr.heap.size + 1, 3, none⟩ = some (.string ys[j].2.2.2.1) := k7b.cell 3
      have m6_4 : w1.cell? ⟨wr.heap.size, 4, none⟩ = some (.bool xs[j].2.2.2.2.1) := k6b.cell 4
      have m7_4 : w1.cell? ⟨wr.heap.size + 1, 4, none⟩ = some (.bool ys[j].2.2.2.2.1) := k7b.cell 4
      have m6_5 : w1.cell? ⟨wr.heap.size, 5, none⟩ = some (.string xs[j].2.2.2.2.2) := k6b.cell 5
      have m7_5 : w1.cell? ⟨wr.heap.size + 1, 5, none⟩ = some (.string ys[j].2.2.2.2.2) := k7b.cell 5
      rcases eqb_cases hb1 with ⟨rfl, e1⟩ | ⟨rfl, e1⟩
      · clear hb1
        have HN := Lib.hid (ne_of_at hlt hlt' (fun e => e1 (by rw [e])))
        clear e1
        go_wp2_with fail
        go_ret
        exact EqP.f HN.out uu1
      clear hb1
      have E1 := Lib.hid e1; clear e1
      by_cases e2 : ¬ xs[j].2.2.1 = ys[j].2.2.1
      · have hx : (xs[j].2.2.1 != ys[j].2.2.1) = true := by simp [e2]
        have hxb : (xs[j].2.2.1 == ys[j].2.2.1) = false := by simp [e2]
        have HN := Lib.hid (ne_of_at hlt hlt' (fun e => e2 (by rw [e])))
        clear e2
        go_wp2_with fail
        go_ret
        exact EqP.f HN.out uu1
      have E2 : Hid (xs[j].2.2.1 = ys[j].2.2.1) := Classical.not_not.1 e2
      clear e2
      have hx2 : (xs[j].2.2.1 != ys[j].2.2.1) = false := by rw [E2.out]; simp
      by_cases e3 : ¬ xs[j].2.2.2.1 = ys[j].2.2.2.1
      · have hx : (xs[j].2.2.2.1.toList == ys[j].2.2.2.1.toList) = false := by rw [str_beq]; simp [e3]
        have HN := Lib.hid (ne_of_at hlt hlt' (fun e => e3 (by rw [e])))
        clear e3
        go_wp2_with fail
        go_ret
        exact EqP.f HN.out uu1
      have E3 : Hid (xs[j].2.2.2.1 = ys[j].2.2.2.1) := Classical.not_not.1 e3
      clear e3
      have hx3 : (xs[j].2.2.2.1.toList == ys[j].2.2.2.1.toList) = true := by rw [E3.out]; simp
      by_cases e4 : ¬ xs[j].2.2.2.2.1 = ys[j].2.2.2.2.1
      · have hx : (xs[j].2.2.2.2.1 != ys[j].2.2.2.2.1) = true := by simp [e4]
        have hxb : (xs[j].2.2.2.2.1 == ys[j].2.2.2.2.1) = false := by simp [e4]
        have HN := Lib.hid (ne_of_at hlt hlt' (fun e => e4 (by rw [e])))
        clear e4
        go_wp2_with fail
        go_ret
        exact EqP.f HN.out uu1
      have E4 : Hid (xs[j].2.2.2.2.1 = ys[j].2.2.2.2.1) := Classical.not_not.1 e4
      clear e4
      have hx4 : (xs[j].2.2.2.2.1 != ys[j].2.2.2.2.1) = false := by rw [E4.out]; simp
      by_cases e5 : ¬ xs[j].2.2.2.2.2 = ys[j].2.2.2.2.2
      · have hx : (xs[j].2.2.2.2.2.toList == ys[j].2.2.2.2.2.toList) = false := by rw [str_beq]; simp [e5]
        have HN := Lib.hid (ne_of_at hlt hlt' (fun e => e5 (by rw [e])))
        clear e5
        go_wp2_with fail
        go_ret
        exact EqP.f HN.out uu1
      have E5 : Hid (xs[j].2.2.2.2.2 = ys[j].2.2.2.2.2) := Classical.not_not.1 e5
      clear e5
      have hx5 : (xs[j].2.2.2.2.2.toList == ys[j].2.2.2.2.2.toList) = true := by rw [E5.out]; simp
      have HE : Hid (xs[j] = ys[j]) := Prod.ext E0.out (Prod.ext E1.out (Prod.ext E2.out (Prod.ext E3.out (Prod.ext E4.out E5.out))))
      go_wp2_with fail
      go_roundw
      case rel => exact ⟨j + 1, by omega, by go_num, take_snoc_eq HT.out hlt hlt' HE.out, uu1⟩
      case measure => simp [intOf]; omega
    · have k6 : Bk ((wr.drew.alloc (.cells #[.string ys[j].1, .slice B1 ys[j].2.1.length d1, .bool ys[j].2.2.1, .string ys[j].2.2.2.1, .bool ys[j].2.2.2.2.1, .string ys[j].2.2.2.2.2] 190)).alloc (.cells #[.string xs[j].1, .slice A1 xs[j].2.1.length c1, .bool xs[j].2.2.1, .string xs[j].2.2.2.1, .bool xs[j].2.2.2.2.1, .string xs[j].2.2.2.2.2] 190)) (wr.heap.size + 1) 190 #[.string xs[j].1, .slice A1 xs[j].2.1.length c1, .bool xs[j].2.2.1, .string xs[j].2.2.2.1, .bool xs[j].2.2.2.2.1, .string xs[j].2.2.2.2.2] := by simpa using Bk.new (wr.drew.alloc (.cells #[.string ys[j].1, .slice B1 ys[j].2.1.length d1, .bool ys[j].2.2.1, .string ys[j].2.2.2.1, .bool ys[j].2.2.2.2.1, .string ys[j].2.2.2.2.2] 190)) 190 #[.string xs[j].1, .slice A1 xs[j].2.1.length c1, .bool xs[j].2.2.1, .string xs[j].2.2.2.1, .bool xs[j].2.2.2.2.1, .string xs[j].2.2.2.2.2]
      have k7 : Bk ((wr.drew.alloc (.cells #[.string ys[j].1, .slice B1 ys[j].2.1.length d1, .bool ys[j].2.2.1, .string ys[j].2.2.2.1, .bool ys[j].2.2.2.2.1, .string ys[j].2.2.2.2.2] 190)).alloc (.cells #[.string xs[j].1, .slice A1 xs[j].2.1.length c1, .bool xs[j].2.2.1, .string xs[j].2.2.2.1, .bool xs[j].2.2.2.2.1, .string xs[j].2.2.2.2.2] 190)) (wr.heap.size) 190 #[.string ys[j].1, .slice B1 ys[j].2.1.length d1, .bool ys[j].2.2.1, .string ys[j].2.2.2.1, .bool ys[j].2.2.2.2.1, .string ys[j].2.2.2.2.2] := (Bk.new wr.drew _ _).alloc _
      have uw : Up wr ((wr.drew.alloc (.cells #[.string ys[j].1, .slice B1 ys[j].2.1.length d1, .bool ys[j].2.2.1, .string ys[j].2.2.2.1, .bool ys[j].2.2.2.2.1, .string ys[j].2.2.2.2.2] 190)).alloc (.cells #[.string xs[j].1, .slice A1 xs[j].2.1.length c1, .bool xs[j].2.2.1, .string xs[j].2.2.2.1, .bool xs[j].2.2.2.2.1, .string xs[j].2.2.2.2.2] 190)) := (((Up.refl wr).drew).alloc _).alloc _
      have uu : Up w ((wr.drew.alloc (.cells #[.string ys[j].1, .slice B1 ys[j].2.1.length d1, .bool ys[j].2.2.1, .string ys[j].2.2.2.1, .bool ys[j].2.2.2.2.1, .string ys[j].2.2.2.2.2] 190)).alloc (.cells #[.string xs[j].1, .slice A1 xs[j].2.1.length c1, .bool xs[j].2.2.1, .string xs[j].2.2.2.1, .bool xs[j].2.2.2.2.1, .string xs[j].2.2.2.2.2] 190)) := hu.trans uw
      have m6_0 : ((wr.drew.alloc (.cells #[.string ys[j].1, .slice B1 ys[j].2.1.length d1, .bool ys[j].2.2.1, .string ys[j].2.2.2.1, .bool ys[j].2.2.2.2.1, .string ys[j].2.2.2.2.2] 190)).alloc (.cells #[.string xs[j].1, .slice A1 xs[j].2.1.length c1, .bool xs[j].2.2.1, .string xs[j].2.2.2.1, .bool xs[j].2.2.2.2.1, .string xs[j].2.2.2.2.2] 190)).cell? ⟨wr.heap.size + 1, 0, none⟩ = some (.string xs[j].1) := k6.cell 0
      have m7_0 : ((wr.drew.alloc (.cells #[.string ys[j].1, .slice B1 ys[j].2.1.length d1, .bool ys[j].2.2.1, .string ys[j].2.2.2.1, .bool ys[j].2.2.2.2.1, .string ys[j].2.2.2.2.2] 190)).alloc (.cells #[.string xs[j].1, .slice A1 xs[j].2.1.length c1, .bool xs[j].2.2.1, .string xs[j].2.2.2.1, .bool xs[j].2.2.2.2.1, .string xs[j].2.2.2.2.2] 190)).cell? ⟨wr.heap.size, 0, none⟩ = some (.string ys[j].1) := k7.cell 0
      have m6_1 : ((wr.drew.alloc (.cells #[.string ys[j].1, .slice B1 ys[j].2.1.length d1, .bool ys[j].2.2.1, .string ys[j].2.2.2.1, .bool ys[j].2.2.2.2.1, .string ys[j].2.2.2.2.2] 190)).alloc (.cells #[.string xs[j].1, .slice A1 xs[j].2.1.length c1, .bool xs[j].2.2.1, .string xs[j].2.2.2.1, .bool xs[j].2.2.2.2.1, .string xs[j].2.2.2.2.2] 190)).cell? ⟨wr.heap.size + 1, 1, none⟩ = some (.slice A1 xs[j].2.1.length c1) := k6.cell 1
      have m7_1 : ((wr.drew.alloc (.cells #[.string ys[j].1, .slice B1 ys[j].2.1.length d1, .bool ys[j].2.2.1, .string ys[j].2.2.2.1, .bool ys[j].2.2.2.2.1, .string ys[j].2.2.2.2.2] 190)).alloc (.cells #[.string xs[j].1, .slice A1 xs[j].2.1.length c1, .bool xs[j].2.2.1, .string xs[j].2.2.2.1, .bool xs[j].2.2.2.2.1, .string xs[j].2.2.2.2.2] 190)).cell? ⟨wr.heap.size, 1, none⟩ = some (.slice B1 ys[j].2.1.length d1) := k7.cell 1
      have m6_2 : ((wr.drew.alloc (.cells #[.string ys[j].1, .slice B1 ys[j].2.1.length d1, .bool ys[j].2.2.1, .string ys[j].2.2.2.1, .bool ys[j].2.2.2.2.1, .string ys[j].2.2.2.2.2] 190)).alloc (.cells #[.string xs[j].1, .slice A1 xs[j].2.1.length c1, .bool xs[j].2.2.1, .string xs[j].2.2.2.1, .bool xs[j].2.2.2.2.1, .string xs[j].2.2.2.2.2] 190)).cell? ⟨wr.heap.size + 1, 2, none⟩ = some (.bool xs[j].2.2.1) := k6.cell 2
      have m7_2 : ((wr.drew.alloc (.cells #[.string ys[j].1, .slice B1 ys[j].2.1.length d1, .bool ys[j].2.2.1, .string ys[j].2.2.2.1, .bool ys[j].2.2.2.2.1, .string ys[j].2.2.2.2.2] 190)).alloc (.cells #[.string xs[j].1, .slice A1 xs[j].2.1.length c1, .bool xs[j].2.2.1, .string xs[j].2.2.2.1, .bool xs[j].2.2.2.2.1, .string xs[j].2.2.2.2.2] 190)).cell? ⟨wr.heap.size, 2, none⟩ = some (.bool ys[j].2.2.1) := k7.cell 2
      have m6_3 : ((wr.drew.alloc (.cells #[.string ys[j].1, .slice B1 ys[j].2.1.length d1, .bool ys[j].2.2.1, .string ys[j].2.2.2.1, .bool ys[j].2.2.2.2.1, .string ys[j].2.2.2.2.2] 190)).alloc (.cells #[.string xs[j].1, .slice A1 xs[j].2.1.length c1, .bool xs[j].2.2.1, .string xs[j].2.2.2.1, .bool xs[j].2.2.2.2.1, .string xs[j].2.2.2.2.2] 190)).cell? ⟨wr.heap.size + 1, 3, none⟩ = some (.string xs[j].2.2.2.1) := k6.cell 3
      have m7_3 : ((wr.drew.alloc (.cells #[.string ys[j].1, .slice B1 ys[j].2.1.length d1, .bool ys[j].2.2.1, .string ys[j].2.2.2.1, .bool ys[j].2.2.2.2.1, .string ys[j].2.2.2.2.2] 190)).alloc (.cells #[.string xs[j].1, .slice A1 xs[j].2.1.length c1, .bool xs[j].2.2.1, .string xs[j].2.2.2.1, .bool xs[j].2.2.2.2.1, .string xs[j].2.2.2.2.2] 190)).cell? ⟨wr.heap.size, 3, none⟩ = some (.string ys[j].2.2.2.1) := k7.cell 3
      have m6_4 : ((wr.drew.alloc (.cells #[.string ys[j].1, .slice B1 ys[j].2.1.length d1, .bool ys[j].2.2.1, .string ys[j].2.2.2.1, .bool ys[j].2.2.2.2.1, .string ys[j].2.2.2.2.2] 190)).alloc (.cells #[.string xs[j].1, .slice A1 xs[j].2.1.length c1, .bool xs[j].2.2.1, .string xs[j].2.2.2.1, .bool xs[j].2.2.2.2.1, .string xs[j].2.2.2.2.2] 190)).cell? ⟨wr.heap.size + 1, 4, none⟩ = some (.bool xs[j].2.2.2.2.1) := k6.cell 4
      have m7_4 : ((wr.drew.alloc (.cells #[.string ys[j].1, .slice B1 ys[j].2.1.length d1, .bool ys[j].2.2.1, .string ys[j].2.2.2.1, .bool ys[j].2.2.2.2.1, .string ys[j].2.2.2.2.2] 190)).alloc (.cells #[.string xs[j].1, .slice A1 xs[j].2.1.length c1, .bool xs[j].2.2.1, .string xs[j].2.2.2.1, .bool xs[j].2.2.2.2.1, .string xs[j].2.2.2.2.2] 190)).cell? ⟨wr.heap.size, 4, none⟩ = some (.bool ys[j].2.2.2.2.1) := k7.cell 4
      have m6_5 : ((wr.drew.alloc (.cells #[.string ys[j].1, .slice B1 ys[j].2.1.length d1, .bool ys[j].2.2.1, .string ys[j].2.2.2.1, .bool ys[j].2.2.2.2.1, .string ys[j].2.2.2.2.2] 190)).alloc (.cells #[.string xs[j].1, .slice A1 xs[j].2.1.length c1, .bool xs[j].2.2.1, .string xs[j].2.2.2.1, .bool xs[j].2.2.2.2.1, .string xs[j].2.2.2.2.2] 190)).cell? ⟨wr.heap.size + 1, 5, none⟩ = some (.string xs[j].2.2.2.2.2) := k6.cell 5
      have m7_5 : ((wr.drew.alloc (.cells #[.string ys[j].1, .slice B1 ys[j].2.1.length d1, .bool ys[j].2.2.1, .string ys[j].2.2.2.1, .bool ys[j].2.2.2.2.1, .string ys[j].2.2.2.2.2] 190)).alloc (.cells #[.string xs[j].1, .slice A1 xs[j].2.1.length c1, .bool xs[j].2.2.1, .string xs[j].2.2.2.1, .bool xs[j].2.2.2.2.1, .string xs[j].2.2.2.2.2] 190)).cell? ⟨wr.heap.size, 5, none⟩ = some (.string ys[j].2.2.2.2.2) := k7.cell 5
      have n6 := k6.lt
      have n7 := k7.lt
      by_cases e0 : ¬ xs[j].1 = ys[j].1
      · have hx : (xs[j].1.toList == ys[j].1.toList) = false := by rw [str_beq]; simp [e0]
        have HN := Lib.hid (ne_of_at hlt hlt' (fun e => e0 (by rw [e])))
        clear e0
        go_wp2_with fail
        go_ret
        exact EqP.f HN.out uu
      have E0 : Hid (xs[j].1 = ys[j].1) := Classical.not_not.1 e0
      clear e0
      have hx0 : (xs[j].1.toList == ys[j].1.toList) = true := by rw [E0.out]; simp
      go_wp2_with fail
      refine (c_SameSubs _ _ _ _ _ _ _ (f1.up good_S uw) (q1.up good_S uw)).mono ?_
      rintro e w1 ⟨b1, rfl, hb1, u1⟩
      have uu1 := uu.trans u1
      clear m6_0 m7_0 m6_1 m7_1 m6_2 m7_2 m6_3 m7_3 m6_4 m7_4 m6_5 m7_5
      have k6b := k6.up u1
      have k7b := k7.up u1
      have m6_2 : w1.cell? ⟨wr.heap.size + 1, 2, none⟩ = some (.bool xs[j].2.2.1) := k6b.cell 2
      have m7_2 : w1.cell? ⟨wr.heap.size, 2, none⟩ = some (.bool ys[j].2.2.1) := k7b.cell 2
      have m6_3 : w1.cell? ⟨wr.heap.size + 1, 3, none⟩ = some (.string xs[j].2.2.2.1) := k6b.cell 3
      have m7_3 : w1.cell? ⟨wr.heap.size, 3, none⟩ = some (.string ys[j].2.2.2.1) := k7b.cell 3
      have m6_4 : w1.cell? ⟨wr.heap.size + 1, 4, none⟩ = some (.bool xs[j].2.2.2.2.1) := k6b.cell 4
      have m7_4 : w1.cell? ⟨wr.heap.size, 4, none⟩ = some (.bool ys[j].2.2.2.2.1) := k7b.cell 4
      have m6_5 : w1.cell? ⟨wr.heap.size + 1, 5, none⟩ = some (.string xs[j].2.2.2.2.2) := k6b.cell 5
      have m7_5 : w1.cell? ⟨wr.heap.size, 5, none⟩ = some (.string ys[j].2.2.2.2.2) := k7b.cell 5
      rcases eqb_cases hb1 with ⟨rfl, e1⟩ | ⟨rfl, e1⟩
      · clear hb1
        have HN := Lib.hid (ne_of_at hlt hlt' (fun e => e1 (by rw [e])))
        clear e1
        go_wp2_with fail
        go_ret
        exact EqP.f HN.out uu1
      clear hb1
      have E1 := Lib.hid e1; clear e1
      by_cases e2 : ¬ xs[j].2.2.1 = ys[j].2.2.1
      · have hx : (xs[j].2.2.1 != ys[j].2.2.1) = true := by simp [e2]
        have hxb : (xs[j].2.2.1 == ys[j].2.2.1) = false := by simp [e2]
        have HN := Lib.hid (ne_of_at hlt hlt' (fun e => e2 (by rw [e])))
        clear e2
        go_wp2_with fail
        go_ret
        exact EqP.f HN.out uu1
      have E2 : Hid (xs[j].2.2.1 = ys[j].2.2.1) := Classical.not_not.1 e2
      clear e2
      have hx2 : (xs[j].2.2.1 != ys[j].2.2.1) = false := by rw [E2.out]; simp
      by_cases e3 : ¬ xs[j].2.2.2.1 = ys[j].2.2.2.1
      · have hx : (xs[j].2.2.2.1.toList == ys[j].2.2.2.1.toList) = false := by rw [str_beq]; simp [e3]
        have HN := Lib.hid (ne_of_at hlt hlt' (fun e => e3 (by rw [e])))
        clear e3
        go_wp2_with fail
        go_ret
        exact EqP.f HN.out uu1
      have E3 : Hid (xs[j].2.2.2.1 = ys[j].2.2.2.1) := Classical.not_not.1 e3
      clear e3
      have hx3 : (xs[j].2.2.2.1.toList == ys[j].2.2.2.1.toList) = true := by rw [E3.out]; simp
      by_cases e4 : ¬ xs[j].2.2.2.2.1 = ys[j].2.2.2.2.1
      · have hx : (xs[j].2.2.2.2.1 != ys[j].2.2.2.2.1) = true := by simp [e4]
        have hxb : (xs[j].2.2.2.2.1 == ys[j].2.2.2.2.1) = false := by simp [e4]
        have HN := Lib.hid (ne_of_at hlt hlt' (fun e => e4 (by rw [e])))
        clear e4
        go_wp2_with fail
        go_ret
        exact EqP.f HN.out uu1
      have E4 : Hid (xs[j].2.2.2.2.1 = ys[j].2.2.2.2.1) := Classical.not_not.1 e4
      clear e4
      have hx4 : (xs[j].2.2.2.2.1 != ys[j].2.2.2.2.1) = false := by rw [E4.out]; simp
      by_cases e5 : ¬ xs[j].2.2.2.2.2 = ys[j].2.2.2.2.2
      · have hx : (xs[j].2.2.2.2.2.toList == ys[j].2.2.2.2.2.toList) = false := by rw [str_beq]; simp [e5]
        have HN := Lib.hid (ne_of_at hlt hlt' (fun e => e5 (by rw [e])))
        clear e5
        go_wp2_with fail
        go_ret
        exact EqP.f HN.out uu1
      have E5 : Hid (xs[j].2.2.2.2.2 = ys[j].2.2.2.2.2) := Classical.not_not.1 e5
      clear e5
      have hx5 : (xs[j].2.2.2.2.2.toList == ys[j].2.2.2.2.2.toList) = true := by rw [E5.out]; simp
      have HE : Hid (xs[j] = ys[j]) := Prod.ext E0.out (Prod.ext E1.out (Prod.ext E2.out (Prod.ext E3.out (Prod.ext E4.out E5.out))))
      go_wp2_with fail
      go_roundw
      case rel => exact ⟨j + 1, by omega, by go_num, take_snoc_eq HT.out hlt hlt' HE.out, uu1⟩
      case measure => simp [intOf]; omega
set_option maxRecDepth 100000 in
set_option maxHeartbeats 8000000 in
theorem c_specSameReplica (v u : Value) (x y : TReplica) (w : World) (h : AV shReplica w v x) (k : AV shReplica w u y) : Calls Try.prog 49 #[v, u] w (EqP (x = y) w) := by
  obtain ⟨cs, rfl, h⟩ := h
  obtain ⟨ds, rfl, k⟩ := k
  obtain ⟨A0, c0, A2, c2, rfl, b0, b1, b2⟩ := openReplica h
  obtain ⟨B0, d0, B2, d2, rfl, e0, e1, e2⟩ := openReplica k
  have u0 : Up w ((w.alloc (.cells #[.slice A0 x.1.length c0, .int .i64 x.2.1, .slice A2 x.2.2.length c2] 86)).alloc (.cells #[.slice B0 y.1.length d0, .int .i64 y.2.1, .slice B2 y.2.2.length d2] 86)) := ((Up.refl _).alloc _).alloc _
  have kx0 : Bk ((w.alloc (.cells #[.slice A0 x.1.length c0, .int .i64 x.2.1, .slice A2 x.2.2.length c2] 86)).alloc (.cells #[.slice B0 y.1.length d0, .int .i64 y.2.1, .slice B2 y.2.2.length d2] 86)) w.heap.size 86 #[.slice A0 x.1.length c0, .int .i64 x.2.1, .slice A2 x.2.2.length c2] := (Bk.new _ _ _).alloc _
  have ky0 : Bk ((w.alloc (.cells #[.slice A0 x.1.length c0, .int .i64 x.2.1, .slice A2 x.2.2.length c2] 86)).alloc (.cells #[.slice B0 y.1.length d0, .int .i64 y.2.1, .slice B2 y.2.2.length d2] 86)) (w.heap.size + 1) 86 #[.slice B0 y.1.length d0, .int .i64 y.2.1, .slice B2 y.2.2.length d2] := by simpa using Bk.new (w.alloc (.cells #[.slice A0 x.1.length c0, .int .i64 x.2.1, .slice A2 x.2.2.length c2] 86)) 86 #[.slice B0 y.1.length d0, .int .i64 y.2.1, .slice B2 y.2.2.length d2]
  have hlen := b2.len_le
  have klen := e2.len_le
  go_enter Try.func49, Try.ntmps49
  go_wp2_with fail
  refine (c_specSameTree _ _ x.1 y.1 _ ⟨_, rfl, mkTree (x := x.1) (b0.up good_Node u0)⟩ ⟨_, rfl, mkTree (x := y.1) (e0.up good_Node u0)⟩).mono ?_
  rintro e w1 ⟨b, rfl, hb, u1⟩
  have uu1 := u0.trans u1
  have kx1 := kx0.up u1
  have ky1 := ky0.up u1
  have gx_0 : w1.cell? ⟨w.heap.size, 0, none⟩ = some (.slice A0 x.1.length c0) := kx1.cell 0
  have gy_0 : w1.cell? ⟨w.heap.size + 1, 0, none⟩ = some (.slice B0 y.1.length d0) := ky1.cell 0
  have gx_1 : w1.cell? ⟨w.heap.size, 1, none⟩ = some (.int .i64 x.2.1) := kx1.cell 1
  have gy_1 : w1.cell? ⟨w.heap.size + 1, 1, none⟩ = some (.int .i64 y.2.1) := ky1.cell 1
  have gx_2 : w1.cell? ⟨w.heap.size, 2, none⟩ = some (.slice A2 x.2.2.length c2) := kx1.cell 2
  have gy_2 : w1.cell? ⟨w.heap.size + 1, 2, none⟩ = some (.slice B2 y.2.2.length d2) := ky1.cell 2
  rcases eqb_cases hb with ⟨rfl, e⟩ | ⟨rfl, e⟩
  · clear hb
    have HN : Hid (¬ x = y) := fun h => e (by rw [h])
    clear e
    go_wp2_with fail
    go_ret
    exact EqP.f HN.out uu1
  clear hb
  have E0 := Lib.hid e; clear e
  by_cases e : ¬ x.2.1 = y.2.1
  · have hx : (x.2.1 != y.2.1) = true := by simp [e]
    have HN : Hid (¬ x = y) := fun h => e (by rw [h])
    clear e
    go_wp2_with fail
    go_ret
    exact EqP.f HN.out uu1
  have E1 : Hid (x.2.1 = y.2.1) := Classical.not_not.1 e
  clear e
  have hx1 : (x.2.1 != y.2.1) = false := by rw [E1.out]; simp
  by_cases hl : ¬ x.2.2.length = y.2.2.length
  · have hbn : ((x.2.2.length : Int) != (y.2.2.length : Int)) = true := by rw [bne_iff_ne]; omega
    have HN : Hid (¬ x = y) := fun h => hl (by rw [h])
    clear hl
    go_wp2_with fail
    go_ret
    exact EqP.f HN.out uu1
  have HL : Hid (x.2.2.length = y.2.2.length) := Classical.not_not.1 hl
  clear hl
  have hbn : ((x.2.2.length : Int) != (y.2.2.length : Int)) = false := by rw [HL.out]; simp
  go_wp2_with fail
  clear gx_0 gy_0 gx_1 gy_1 gx_2 gy_2
  go_loopw [5] (fun i wr => ∃ k : Nat, k ≤ x.2.2.length ∧ i = .int .i64 k ∧ Hid (x.2.2.take k = y.2.2.take k) ∧ Up w wr ∧ Bk wr w.heap.size 86 #[.slice A0 x.1.length c0, .int .i64 x.2.1, .slice A2 x.2.2.length c2] ∧ Bk wr (w.heap.size + 1) 86 #[.slice B0 y.1.length d0, .int .i64 y.2.1, .slice B2 y.2.2.length d2]) (fun i _ => x.2.2.length - (intOf i).toNat)
  case atStart => exact ⟨0, Nat.zero_le _, rfl, rfl, uu1, kx1, ky1⟩
  case round =>
    obtain ⟨j, hj, rfl, HT, hu, kx, ky⟩ := hrel
    have gx : wr.cell? ⟨w.heap.size, 2, none⟩ = some (.slice A2 x.2.2.length c2) := kx.cell 2
    have gy : wr.cell? ⟨w.heap.size + 1, 2, none⟩ = some (.slice B2 y.2.2.length d2) := ky.cell 2
    by_cases hlt : j < x.2.2.length
    rotate_left
    · have HE : Hid (x = y) := Prod.ext E0.out (Prod.ext E1.out (take_all_eq HT.out (show x.2.2.length ≤ j by omega) (by rw [← HL.out]; omega)))
      go_wp2_with fail
      go_ret
      exact EqP.t HE.out hu
    have hlt' : j < y.2.2.length := by rw [← HL.out]; exact hlt
    obtain ⟨g, off, A3, c3, rfl, _, hg1, hc0, hc1, f0, f1, _⟩ := atParcel (b2.up good_Parcel hu) hlt
    obtain ⟨g', off', B3, d3, rfl, _, hg2, hd0, hd1, q0, q1, _⟩ := atParcel (e2.up good_Parcel hu) hlt'
    have tx := fun t : UpT wr => cell_up t gx
    have ty := fun t : UpT wr => cell_up t gy
    have t0 := fun t : UpT wr => cell_up t hc0
    have t1 := fun t : UpT wr => cell_up t hc1
    have s0 := fun t : UpT wr => cell_up t hd0
    have s1 := fun t : UpT wr => cell_up t hd1
    by_cases he0 : ¬ x.2.2[j].1 = y.2.2[j].1
    · have hx : (x.2.2[j].1 != y.2.2[j].1) = true := by simp [he0]
      have HN : Hid (¬ x = y) := fun h => ne_of_at hlt hlt' (fun e => he0 (by rw [e])) (by rw [h])
      clear he0
      go_wp2_with fail
      refine wp_region_up (by kernel_rfl) (by kernel_rfl) ?_
      repeat (go_big_quiet_step (fail))
      refine wpQuiet_nil ?_
      rintro _ ⟨⟨w2, u2⟩, rfl⟩
      go_wp2_with fail
      go_ret
      exact EqP.f HN.out (hu.trans u2)
    have F0 : Hid (x.2.2[j].1 = y.2.2[j].1) := Classical.not_not.1 he0
    clear he0
    have hx0 : (x.2.2[j].1 != y.2.2[j].1) = false := by rw [F0.out]; simp
    by_cases he1 : x.2.2[j].2 = y.2.2[j].2
    · have F1 := Lib.hid he1; clear he1
      have HE : Hid (x.2.2[j] = y.2.2[j]) := Prod.ext F0.out F1.out
      go_wp2_with fail
      refine wp_region_up (by kernel_rfl) (by kernel_rfl) ?_
      repeat (go_big_quiet_step ((go_at_call 107; exact up_eqt (c_l23SameImages _ _ _ _ _ _ _ (f1.up good_Image (UpT.up _)) (q1.up good_Image (UpT.up _))) F1.out (UpT.up _))))
      refine wpQuiet_nil ?_
      rintro _ ⟨⟨w2, u2⟩, rfl⟩
      go_wp2_with fail
      go_roundw
      case rel => exact ⟨j + 1, by omega, by go_num, take_snoc_eq HT.out hlt hlt' HE.out, hu.trans u2, kx.up u2, ky.up u2⟩
      case measure => simp [intOf]; omega
    · have F1 := Lib.hid he1
      have HN : Hid (¬ x = y) := fun h => ne_of_at hlt hlt' (fun e => he1 (by rw [e])) (by rw [h])
      clear he1
      go_wp2_with fail
      refine wp_region_up (by kernel_rfl) (by kernel_rfl) ?_
      repeat (go_big_quiet_step ((go_at_call 107; exact up_eqf (c_l23SameImages _ _ _ _ _ _ _ (f1.up good_Image (UpT.up _)) (q1.up good_Image (UpT.up _))) F1.out (UpT.up _))))
      refine wpQuiet_nil ?_
      rintro _ ⟨⟨w2, u2⟩, rfl⟩
      go_wp2_with fail
      go_ret
      exact EqP.f HN.out (hu.trans u2)

theorem cs_SameReplica (v0 : Value) (x0 : TReplica) (v1 : Value) (x1 : TReplica) (w : World) (h0 : AV shReplica w v0 x0) (_n0 : shReplica.sz x0 ≤ 1048576) (h1 : AV shReplica w v1 x1) (_n1 : shReplica.sz x1 ≤ 1048576) :
    Calls Try.prog 49 #[v0, v1] w (EqP (x0 = x1) w) := c_specSameReplica v0 v1 x0 x1 w h0 h1
theorem ci_SameReplica (v0 : Value) (x0 : TReplica) (v1 : Value) (x1 : TReplica) (w : World) (h0 : AV shReplica w v0 x0) (_n0 : shReplica.sz x0 ≤ 1048576) (h1 : AV shReplica w v1 x1) (_n1 : shReplica.sz x1 ≤ 1048576) :
    Calls Try.prog 51 #[v0, v1] w (EqP (x0 = x1) w) := c_implSameReplica v0 v1 x0 x1 w h0 h1
end Go.Proofs.Ytafabcabffeikaa
