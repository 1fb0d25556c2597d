/-
  Contracts of the laws' eq helpers, by genlaw.py
-/
import Derived.Test.YtanjmolgpkffoaaGreatDoorRows
import Derived.Test.YtanjmolgpkffoaaGreatDoorM2E
import Derived.Test.YtanjmolgpkffoaaGreatDoorM2A
import Derived.StillTailTactics
namespace Go.Proofs.YtanjmolgpkffoaaGreatDoor
open Go.RowKit
set_option linter.unusedSimpArgs false
set_option linter.unusedVariables false

set_option maxRecDepth 100000 in
set_option maxHeartbeats 1000000 in
theorem c_eqStringS (xs ys : List ByteArray) (A B : Option Addr) (c d : Nat) (w : World) (h : SRW shS w A c xs) (k : SRW shS w B d ys) :
    Calls Tryz.prog 18 #[.slice A xs.length c, .slice B ys.length d] w (EqP (xs = ys) w) := by
  have hlen := h.len_le
  have klen := k.len_le
  by_cases hl : xs.length = ys.length
  · have hb : ((xs.length : Int) != (ys.length : Int)) = false := by simp [hl]
    have HL := Lib.hid hl; clear hl
    go_enter Tryz.func18, Tryz.ntmps18
    go_wp2
    go_loopw [5] (fun i wr => ∃ k : Nat, k ≤ xs.length ∧ i = .int .i64 k ∧ Hid (xs.take k = ys.take k) ∧ Up w wr) (fun i _ => xs.length - (intOf i).toNat)
    case atStart => exact ⟨0, Nat.zero_le _, rfl, rfl, Up.refl _⟩
    case round =>
      obtain ⟨j, hj, rfl, HT, hu⟩ := hrel
      by_cases hlt : j < xs.length
      · have hlt' : j < ys.length := by rw [← HL.out]; exact hlt
        obtain ⟨g, off, rfl, _, _, hc, hb1⟩ := (h.up good_S hu).at_S hlt
        obtain ⟨g', off', rfl, _, _, hc', hb2⟩ := (k.up good_S hu).at_S hlt'
        by_cases he : xs[j] = ys[j]
        · have hx : (xs[j].toList == ys[j].toList) = true := by rw [str_beq]; simp [he]
          have HE := Lib.hid he; clear he
          go_wp2
          go_quiet (fail)
          go_wp2
          go_roundw
          case rel => exact ⟨j + 1, by omega, by go_num, take_snoc_eq HT.out hlt hlt' HE.out, hu.drewN _⟩
          case measure => simp [intOf]; omega
        · have hx : (xs[j].toList == ys[j].toList) = false := by rw [str_beq]; simp [he]
          have HE := Lib.hid (ne_of_at hlt hlt' he); clear he
          go_wp2
          go_quiet (fail)
          go_wp2
          go_ret
          exact EqP.f HE.out (hu.drewN _)
      · have HE := Lib.hid (take_all_eq HT.out (by omega) (by rw [← HL.out]; omega))
        go_wp2
        go_ret
        exact EqP.t HE.out hu
  · have hb : ((xs.length : Int) != (ys.length : Int)) = true := by rw [bne_iff_ne]; omega
    have HE := Lib.hid (ne_of_len hl); clear hl
    go_enter Tryz.func18, Tryz.ntmps18
    go_wp2
    go_ret
    exact EqP.f HE.out (Up.refl _)

set_option maxHeartbeats 1000000 in
theorem c_eqNode (v u : Value) (x y : TNode) (w : World) (h : AV shNode w v x) (k : AV shNode w u y) :
    Calls Tryz.prog 109 #[v, u] w (EqP (x = y) w) := by
  obtain ⟨cs, rfl, h⟩ := h
  obtain ⟨x0, x1, x2⟩ := x
  have ho := openNode h
  try dsimp only at ho
  obtain ⟨A1, c1, rfl, b0, b1, b2⟩ := ho
  obtain ⟨ds, rfl, k⟩ := k
  obtain ⟨y0, y1, y2⟩ := y
  have ko := openNode k
  try dsimp only at ko
  obtain ⟨B1, d1, rfl, e0, e1, e2⟩ := ko
  have kx0 : Bk ((w.alloc (.cells #[.string x0, .slice A1 x1.length c1, .string x2] 91)).alloc (.cells #[.string y0, .slice B1 y1.length d1, .string y2] 91)) w.heap.size 91 #[.string x0, .slice A1 x1.length c1, .string x2] := (Bk.new _ _ _).alloc _
  have ky0 : Bk ((w.alloc (.cells #[.string x0, .slice A1 x1.length c1, .string x2] 91)).alloc (.cells #[.string y0, .slice B1 y1.length d1, .string y2] 91)) (w.heap.size + 1) 91 #[.string y0, .slice B1 y1.length d1, .string y2] := by simpa using Bk.new (w.alloc (.cells #[.string x0, .slice A1 x1.length c1, .string x2] 91)) 91 #[.string y0, .slice B1 y1.length d1, .string y2]
  have uu0 : Up w ((w.alloc (.cells #[.string x0, .slice A1 x1.length c1, .string x2] 91)).alloc (.cells #[.string y0, .slice B1 y1.length d1, .string y2] 91)) := ((Up.refl _).alloc _).alloc _
  by_cases e_0 : ¬ x0 = y0
  · have hx : (x0.toList == y0.toList) = false := by rw [str_beq]; simp [e_0]
    have HE : Hid (¬ (x0, x1, x2) = (y0, y1, y2)) := by unfold Hid; intro hh; (try simp only [Prod.mk.injEq] at hh); exact e_0 (by simp [hh])
    clear e_0
    go_enter Tryz.func109, Tryz.ntmps109
    go_wp2_with fail
    go_ret
    exact EqP.f HE.out uu0
  replace e_0 := Decidable.of_not_not e_0
  subst e_0
  go_enter Tryz.func109, Tryz.ntmps109
  go_wp2_with fail
  refine (c_eqStringS _ _ _ _ _ _ _ (b1.up good_S uu0) (e1.up good_S uu0)).mono ?_
  rintro r w1 ⟨bb, rfl, hbb, u1⟩
  have uu1 := uu0.trans u1
  have kx1 := kx0.up u1
  have ky1 := ky0.up u1
  clear u1
  rcases eqb_cases hbb with ⟨rfl, e_1⟩ | ⟨rfl, e_1⟩
  · clear hbb
    have HE : Hid (¬ (x0, x1, x2) = (x0, y1, y2)) := by unfold Hid; intro hh; (try simp only [Prod.mk.injEq] at hh); exact e_1 (by simp [hh])
    clear e_1
    go_wp2_with fail
    go_ret
    exact EqP.f HE.out uu1
  clear hbb
  subst e_1
  have gx1_2 : w1.cell? ⟨w.heap.size, 2, none⟩ = some (.string x2) := kx1.cell 2
  have gy1_2 : w1.cell? ⟨w.heap.size + 1, 2, none⟩ = some (.string y2) := ky1.cell 2
  by_cases e_2 : ¬ x2 = y2
  · have hx : (x2.toList == y2.toList) = false := by rw [str_beq]; simp [e_2]
    have HE : Hid (¬ (x0, x1, x2) = (x0, x1, y2)) := by unfold Hid; intro hh; (try simp only [Prod.mk.injEq] at hh); exact e_2 (by simp [hh])
    clear e_2
    go_wp2_with fail
    go_ret
    exact EqP.f HE.out uu1
  replace e_2 := Decidable.of_not_not e_2
  subst e_2
  go_wp2_with fail
  go_ret
  exact EqP.t (by simp) uu1

set_option maxRecDepth 100000 in
set_option maxHeartbeats 1000000 in
theorem c_eqNodeS (xs ys : List TNode) (A B : Option Addr) (c d : Nat) (w : World) (h : SRW shNode w A c xs) (k : SRW shNode w B d ys) :
    Calls Tryz.prog 59 #[.slice A xs.length c, .slice B ys.length d] w (EqP (xs = ys) w) := by
  have hlen := h.len_le
  have klen := k.len_le
  by_cases hl : xs.length = ys.length
  · have hb : ((xs.length : Int) != (ys.length : Int)) = false := by simp [hl]
    have HL := Lib.hid hl; clear hl
    go_enter Tryz.func59, Tryz.ntmps59
    go_wp2
    go_loopw [5] (fun i wr => ∃ k : Nat, k ≤ xs.length ∧ i = .int .i64 k ∧ Hid (xs.take k = ys.take k) ∧ Up w wr) (fun i _ => xs.length - (intOf i).toNat)
    case atStart => exact ⟨0, Nat.zero_le _, rfl, rfl, Up.refl _⟩
    case round =>
      obtain ⟨j, hj, rfl, HT, hu⟩ := hrel
      by_cases hlt : j < xs.length
      · have hlt' : j < ys.length := by rw [← HL.out]; exact hlt
        obtain ⟨g, off, A1, c1, rfl, _, _, hc0, hc1, hc2, b0, b1, b2, _⟩ := atNode (h.up good_Node hu) hlt
        obtain ⟨g', off', B1, d1, rfl, _, _, hd0, hd1, hd2, f0, f1, f2, _⟩ := atNode (k.up good_Node hu) hlt'
        go_wp2_with fail
        go_still_tail 8, (by kernel_rfl)
        change wpList _ _ _ _ _ wr.drew
        go_wp2_with fail
        refine (c_eqNode _ _ xs[j] ys[j] _ (AV.up good_Node ⟨_, rfl, mkNode (x := xs[j]) b0 b1 b2⟩ ((Up.refl wr).drew)) (AV.up good_Node ⟨_, rfl, mkNode (x := ys[j]) f0 f1 f2⟩ ((Up.refl wr).drew))).mono ?_
        rintro e w1 ⟨bb, rfl, hbb, hu1⟩
        rcases (eqb_cases hbb).symm with ⟨rfl, he⟩ | ⟨rfl, he⟩
        · clear hbb
          have HE := Lib.hid he; clear he
          go_wp2_with fail
          go_roundw
          case rel => exact ⟨j + 1, by omega, by go_num, take_snoc_eq HT.out hlt hlt' HE.out, hu.drew.trans hu1⟩
          case measure => simp [intOf]; omega
        · clear hbb
          have HE := Lib.hid (ne_of_at hlt hlt' he); clear he
          go_wp2_with fail
          go_ret
          exact EqP.f HE.out (hu.drew.trans hu1)
      · have HE := Lib.hid (take_all_eq HT.out (by omega) (by rw [← HL.out]; omega))
        go_wp2
        go_ret
        exact EqP.t HE.out hu
  · have hb : ((xs.length : Int) != (ys.length : Int)) = true := by rw [bne_iff_ne]; omega
    have HE := Lib.hid (ne_of_len hl); clear hl
    go_enter Tryz.func59, Tryz.ntmps59
    go_wp2
    go_ret
    exact EqP.f HE.out (Up.refl _)

set_option maxHeartbeats 1000000 in
theorem c_eqTree (v u : Value) (x y : TTree) (w : World) (h : AV shTree w v x) (k : AV shTree w u y) :
    Calls Tryz.prog 17 #[v, u] w (EqP (x = y) w) := by
  obtain ⟨cs, rfl, h⟩ := h
  obtain ⟨x0, rfl⟩ : ∃ q, q = x := ⟨_, rfl⟩
  have ho := openTree h
  try dsimp only at ho
  obtain ⟨A0, c0, rfl, b0⟩ := ho
  obtain ⟨ds, rfl, k⟩ := k
  obtain ⟨y0, rfl⟩ : ∃ q, q = y := ⟨_, rfl⟩
  have ko := openTree k
  try dsimp only at ko
  obtain ⟨B0, d0, rfl, e0⟩ := ko
  have kx0 : Bk ((w.alloc (.cells #[.slice A0 x0.length c0] 32)).alloc (.cells #[.slice B0 y0.length d0] 32)) w.heap.size 32 #[.slice A0 x0.length c0] := (Bk.new _ _ _).alloc _
  have ky0 : Bk ((w.alloc (.cells #[.slice A0 x0.length c0] 32)).alloc (.cells #[.slice B0 y0.length d0] 32)) (w.heap.size + 1) 32 #[.slice B0 y0.length d0] := by simpa using Bk.new (w.alloc (.cells #[.slice A0 x0.length c0] 32)) 32 #[.slice B0 y0.length d0]
  have uu0 : Up w ((w.alloc (.cells #[.slice A0 x0.length c0] 32)).alloc (.cells #[.slice B0 y0.length d0] 32)) := ((Up.refl _).alloc _).alloc _
  go_enter Tryz.func17, Tryz.ntmps17
  go_wp2_with fail
  refine (c_eqNodeS _ _ _ _ _ _ _ (b0.up good_Node uu0) (e0.up good_Node uu0)).mono ?_
  rintro r w1 ⟨bb, rfl, hbb, u1⟩
  have uu1 := uu0.trans u1
  have kx1 := kx0.up u1
  have ky1 := ky0.up u1
  clear u1
  rcases eqb_cases hbb with ⟨rfl, e_0⟩ | ⟨rfl, e_0⟩
  · clear hbb
    have HE : Hid (¬ x0 = y0) := by unfold Hid; intro hh; (try simp only [Prod.mk.injEq] at hh); exact e_0 (by simp [hh])
    clear e_0
    go_wp2_with fail
    go_ret
    exact EqP.f HE.out uu1
  clear hbb
  subst e_0
  go_wp2_with fail
  go_ret
  exact EqP.t (by simp) uu1



set_option maxHeartbeats 1000000 in
theorem c_eqImage (v u : Value) (x y : TImage) (w : World) (h : AV shImage w v x) (k : AV shImage w u y) :
    Calls Tryz.prog 65 #[v, u] w (EqP (x = y) w) := by
  obtain ⟨cs, rfl, h⟩ := h
  obtain ⟨x0, x1, x2, x3, x4, x5⟩ := x
  have ho := openImage h
  try dsimp only at ho
  obtain ⟨A1, c1, rfl, b0, b1, b3, b5⟩ := ho
  obtain ⟨ds, rfl, k⟩ := k
  obtain ⟨y0, y1, y2, y3, y4, y5⟩ := y
  have ko := openImage k
  try dsimp only at ko
  obtain ⟨B1, d1, rfl, e0, e1, e3, e5⟩ := ko
  have kx0 : Bk ((w.alloc (.cells #[.string x0, .slice A1 x1.length c1, .bool x2, .string x3, .bool x4, .string x5] 98)).alloc (.cells #[.string y0, .slice B1 y1.length d1, .bool y2, .string y3, .bool y4, .string y5] 98)) w.heap.size 98 #[.string x0, .slice A1 x1.length c1, .bool x2, .string x3, .bool x4, .string x5] := (Bk.new _ _ _).alloc _
  have ky0 : Bk ((w.alloc (.cells #[.string x0, .slice A1 x1.length c1, .bool x2, .string x3, .bool x4, .string x5] 98)).alloc (.cells #[.string y0, .slice B1 y1.length d1, .bool y2, .string y3, .bool y4, .string y5] 98)) (w.heap.size + 1) 98 #[.string y0, .slice B1 y1.length d1, .bool y2, .string y3, .bool y4, .string y5] := by simpa using Bk.new (w.alloc (.cells #[.string x0, .slice A1 x1.length c1, .bool x2, .string x3, .bool x4, .string x5] 98)) 98 #[.string y0, .slice B1 y1.length d1, .bool y2, .string y3, .bool y4, .string y5]
  have uu0 : Up w ((w.alloc (.cells #[.string x0, .slice A1 x1.length c1, .bool x2, .string x3, .bool x4, .string x5] 98)).alloc (.cells #[.string y0, .slice B1 y1.length d1, .bool y2, .string y3, .bool y4, .string y5] 98)) := ((Up.refl _).alloc _).alloc _
  by_cases e_0 : ¬ x0 = y0
  · have hx : (x0.toList == y0.toList) = false := by rw [str_beq]; simp [e_0]
    have HE : Hid (¬ (x0, x1, x2, x3, x4, x5) = (y0, y1, y2, y3, y4, y5)) := by unfold Hid; intro hh; (try simp only [Prod.mk.injEq] at hh); exact e_0 (by simp [hh])
    clear e_0
    go_enter Tryz.func65, Tryz.ntmps65
    go_wp2_with fail
    go_ret
    exact EqP.f HE.out uu0
  replace e_0 := Decidable.of_not_not e_0
  subst e_0
  go_enter Tryz.func65, Tryz.ntmps65
  go_wp2_with fail
  refine (c_eqStringS _ _ _ _ _ _ _ (b1.up good_S uu0) (e1.up good_S uu0)).mono ?_
  rintro r w1 ⟨bb, rfl, hbb, u1⟩
  have uu1 := uu0.trans u1
  have kx1 := kx0.up u1
  have ky1 := ky0.up u1
  clear u1
  rcases eqb_cases hbb with ⟨rfl, e_1⟩ | ⟨rfl, e_1⟩
  · clear hbb
    have HE : Hid (¬ (x0, x1, x2, x3, x4, x5) = (x0, y1, y2, y3, y4, y5)) := by unfold Hid; intro hh; (try simp only [Prod.mk.injEq] at hh); exact e_1 (by simp [hh])
    clear e_1
    go_wp2_with fail
    go_ret
    exact EqP.f HE.out uu1
  clear hbb
  subst e_1
  have gx1_2 : w1.cell? ⟨w.heap.size, 2, none⟩ = some (.bool x2) := kx1.cell 2
  have gy1_2 : w1.cell? ⟨w.heap.size + 1, 2, none⟩ = some (.bool y2) := ky1.cell 2
  have gx1_3 : w1.cell? ⟨w.heap.size, 3, none⟩ = some (.string x3) := kx1.cell 3
  have gy1_3 : w1.cell? ⟨w.heap.size + 1, 3, none⟩ = some (.string y3) := ky1.cell 3
  have gx1_4 : w1.cell? ⟨w.heap.size, 4, none⟩ = some (.bool x4) := kx1.cell 4
  have gy1_4 : w1.cell? ⟨w.heap.size + 1, 4, none⟩ = some (.bool y4) := ky1.cell 4
  have gx1_5 : w1.cell? ⟨w.heap.size, 5, none⟩ = some (.string x5) := kx1.cell 5
  have gy1_5 : w1.cell? ⟨w.heap.size + 1, 5, none⟩ = some (.string y5) := ky1.cell 5
  by_cases e_2 : ¬ x2 = y2
  · have hx : (x2 != y2) = true := by simp [e_2]
    have HE : Hid (¬ (x0, x1, x2, x3, x4, x5) = (x0, x1, y2, y3, y4, y5)) := by unfold Hid; intro hh; (try simp only [Prod.mk.injEq] at hh); exact e_2 (by simp [hh])
    clear e_2
    cases x2 <;> cases y2
    · simp at hx
    · clear hx
      go_wp2_with fail
      go_ret
      exact EqP.f HE.out uu1
    · clear hx
      go_wp2_with fail
      go_ret
      exact EqP.f HE.out uu1
    · simp at hx
  replace e_2 := Decidable.of_not_not e_2
  subst e_2
  by_cases e_3 : ¬ x3 = y3
  · have hx : (x3.toList == y3.toList) = false := by rw [str_beq]; simp [e_3]
    have HE : Hid (¬ (x0, x1, x2, x3, x4, x5) = (x0, x1, x2, y3, y4, y5)) := by unfold Hid; intro hh; (try simp only [Prod.mk.injEq] at hh); exact e_3 (by simp [hh])
    clear e_3
    go_wp2_with fail
    go_ret
    exact EqP.f HE.out uu1
  replace e_3 := Decidable.of_not_not e_3
  subst e_3
  by_cases e_4 : ¬ x4 = y4
  · have hx : (x4 != y4) = true := by simp [e_4]
    have HE : Hid (¬ (x0, x1, x2, x3, x4, x5) = (x0, x1, x2, x3, y4, y5)) := by unfold Hid; intro hh; (try simp only [Prod.mk.injEq] at hh); exact e_4 (by simp [hh])
    clear e_4
    cases x4 <;> cases y4
    · simp at hx
    · clear hx
      go_wp2_with fail
      go_ret
      exact EqP.f HE.out uu1
    · clear hx
      go_wp2_with fail
      go_ret
      exact EqP.f HE.out uu1
    · simp at hx
  replace e_4 := Decidable.of_not_not e_4
  subst e_4
  by_cases e_5 : ¬ x5 = y5
  · have hx : (x5.toList == y5.toList) = false := by rw [str_beq]; simp [e_5]
    have HE : Hid (¬ (x0, x1, x2, x3, x4, x5) = (x0, x1, x2, x3, x4, y5)) := by unfold Hid; intro hh; (try simp only [Prod.mk.injEq] at hh); exact e_5 (by simp [hh])
    clear e_5
    go_wp2_with fail
    go_ret
    exact EqP.f HE.out uu1
  replace e_5 := Decidable.of_not_not e_5
  subst e_5
  go_wp2_with fail
  go_ret
  exact EqP.t (by simp) uu1

set_option maxRecDepth 100000 in
set_option maxHeartbeats 1000000 in
theorem c_eqImageS (xs ys : List TImage) (A B : Option Addr) (c d : Nat) (w : World) (h : SRW shImage w A c xs) (k : SRW shImage w B d ys) :
    Calls Tryz.prog 23 #[.slice A xs.length c, .slice B ys.length d] w (EqP (xs = ys) w) := by
  have hlen := h.len_le
  have klen := k.len_le
  by_cases hl : xs.length = ys.length
  · have hb : ((xs.length : Int) != (ys.length : Int)) = false := by simp [hl]
    have HL := Lib.hid hl; clear hl
    go_enter Tryz.func23, Tryz.ntmps23
    go_wp2
    go_loopw [5] (fun i wr => ∃ k : Nat, k ≤ xs.length ∧ i = .int .i64 k ∧ Hid (xs.take k = ys.take k) ∧ Up w wr) (fun i _ => xs.length - (intOf i).toNat)
    case atStart => exact ⟨0, Nat.zero_le _, rfl, rfl, Up.refl _⟩
    case round =>
      obtain ⟨j, hj, rfl, HT, hu⟩ := hrel
      by_cases hlt : j < xs.length
      · have hlt' : j < ys.length := by rw [← HL.out]; exact hlt
        obtain ⟨g, off, A1, c1, rfl, _, _, hc0, hc1, hc2, hc3, hc4, hc5, b0, b1, b3, b5, _⟩ := atImage (h.up good_Image hu) hlt
        obtain ⟨g', off', B1, d1, rfl, _, _, hd0, hd1, hd2, hd3, hd4, hd5, f0, f1, f3, f5, _⟩ := atImage (k.up good_Image hu) hlt'
        go_wp2_with fail
        go_still_tail 8, (by kernel_rfl)
        change wpList _ _ _ _ _ wr.drew
        go_wp2_with fail
        refine (c_eqImage _ _ xs[j] ys[j] _ (AV.up good_Image ⟨_, rfl, mkImage (x := xs[j]) b0 b1 b3 b5⟩ ((Up.refl wr).drew)) (AV.up good_Image ⟨_, rfl, mkImage (x := ys[j]) f0 f1 f3 f5⟩ ((Up.refl wr).drew))).mono ?_
        rintro e w1 ⟨bb, rfl, hbb, hu1⟩
        rcases (eqb_cases hbb).symm with ⟨rfl, he⟩ | ⟨rfl, he⟩
        · clear hbb
          have HE := Lib.hid he; clear he
          go_wp2_with fail
          go_roundw
          case rel => exact ⟨j + 1, by omega, by go_num, take_snoc_eq HT.out hlt hlt' HE.out, hu.drew.trans hu1⟩
          case measure => simp [intOf]; omega
        · clear hbb
          have HE := Lib.hid (ne_of_at hlt hlt' he); clear he
          go_wp2_with fail
          go_ret
          exact EqP.f HE.out (hu.drew.trans hu1)
      · have HE := Lib.hid (take_all_eq HT.out (by omega) (by rw [← HL.out]; omega))
        go_wp2
        go_ret
        exact EqP.t HE.out hu
  · have hb : ((xs.length : Int) != (ys.length : Int)) = true := by rw [bne_iff_ne]; omega
    have HE := Lib.hid (ne_of_len hl); clear hl
    go_enter Tryz.func23, Tryz.ntmps23
    go_wp2
    go_ret
    exact EqP.f HE.out (Up.refl _)

end Go.Proofs.YtanjmolgpkffoaaGreatDoor
