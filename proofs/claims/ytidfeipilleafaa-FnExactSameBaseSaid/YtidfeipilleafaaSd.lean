/-
  SameDisk: the program's and the reference's say whether two disks are equal; the law returns true.
-/
import Derived.Test.YtidfeipilleafaaSl
import Derived.Test.YtidfeipilleafaaLz
import Derived.Test.YtidfeipilleafaaLe
import Derived.Test.YtidfeipilleafaaLt
namespace Go.Proofs.Ytidfeipilleafaa
open Go.RowKit
set_option linter.unusedVariables false

theorem c_SameSubs (xs ys : List ByteArray) (A B : Option Addr) (c d : Nat) (w : World) (h : SRW shS w A c xs) (k : SRW shS w B d ys) :
    Calls Try.prog 169 #[.slice A xs.length c, .slice B ys.length d] w (EqP (xs = ys) w) := by
  go_enter Try.func169, Try.ntmps169
  go_wp2_with fail
  refine (c_l02Same _ _ _ _ _ _ _ h k).mono ?_
  rintro e w1 ⟨b, rfl, hb, u⟩
  go_wp2_with fail
  go_ret
  exact ⟨b, rfl, hb, u⟩

set_option maxHeartbeats 1000000 in
theorem c_implSameDisk (v u : Value) (x y : TDisk) (w : World) (h : AV shDisk w v x) (k : AV shDisk w u y) :
    Calls Try.prog 118 #[v, u] w (EqP (x = y) w) := by
  obtain ⟨cs, rfl, h⟩ := h
  obtain ⟨ds, rfl, k⟩ := k
  obtain ⟨x0, x1, x2⟩ := x
  obtain ⟨y0, y1, y2⟩ := y
  have ho := openDisk h
  have ko := openDisk k
  dsimp only at ho ko
  obtain ⟨A1, c1, A2, c2, rfl, b0, b1, b2⟩ := ho
  obtain ⟨B1, d1, B2, d2, rfl, e0, e1, e2⟩ := ko
  by_cases q0 : x0 = y0
  · subst q0
    go_enter Try.func118, Try.ntmps118
    go_wp2_with fail
    refine (c_slEqS _ _ _ _ _ _ _ (b1.up good_S (((Up.refl _).alloc _).alloc _)) (e1.up good_S (((Up.refl _).alloc _).alloc _))).mono ?_
    rintro e w1 ⟨b, rfl, hb, u1⟩
    have kx : Bk w1 w.heap.size 46 #[.int .i64 x0, .slice A1 x1.length c1, .slice A2 x2.length c2] := ((Bk.new _ _ _).alloc _).up u1
    have ky : Bk w1 (w.heap.size + 1) 46 #[.int .i64 x0, .slice B1 y1.length d1, .slice B2 y2.length d2] := Bk.up (by simpa using Bk.new (w.alloc _) _ _) u1
    have uu : Up w w1 := (((Up.refl _).alloc _).alloc _).trans u1
    have gx : w1.cell? ⟨w.heap.size, 2, none⟩ = some (.slice A2 x2.length c2) := kx.cell 2
    have gy : w1.cell? ⟨w.heap.size + 1, 2, none⟩ = some (.slice B2 y2.length d2) := ky.cell 2
    clear u1 kx ky
    rcases eqb_cases hb with ⟨rfl, q1⟩ | ⟨rfl, q1⟩
    · clear hb
      have HE : Hid (¬ (x0, x1, x2) = (x0, y1, y2)) := by unfold Hid; simp [q1]
      clear q1
      go_wp2_with fail
      go_ret
      exact EqP.f HE.out uu
    · subst q1
      go_wp2_with fail
      refine (c_slEqPut _ _ _ _ _ _ _ (b2.up good_Put uu) (e2.up good_Put uu)).mono ?_
      rintro e w2 ⟨b, rfl, hb', u2⟩
      have HE : Hid ((b = true) ↔ ((x0, x1, x2) = (x0, x1, y2))) := by unfold Hid; simp [hb']
      clear hb'
      go_wp2_with fail
      go_ret
      exact ⟨b, rfl, HE.out, uu.trans u2⟩
  · have hx : (x0 == y0) = false := by simp [q0]
    have HE : Hid (¬ (x0, x1, x2) = (y0, y1, y2)) := by unfold Hid; simp [q0]
    clear q0
    go_enter Try.func118, Try.ntmps118
    go_wp2_with fail
    go_ret
    exact EqP.f HE.out (((Up.refl _).alloc _).alloc _)

set_option maxRecDepth 100000 in
set_option maxHeartbeats 2000000 in
theorem c_specSameDisk (v u : Value) (x y : TDisk) (w : World) (h : AV shDisk w v x) (k : AV shDisk w u y) :
    Calls Try.prog 112 #[v, u] w (EqP (x = y) w) := by
  obtain ⟨cs, rfl, h⟩ := h
  obtain ⟨ds, rfl, k⟩ := k
  obtain ⟨x0, x1, x2⟩ := x
  obtain ⟨y0, y1, y2⟩ := y
  have ho := openDisk h
  have ko := openDisk k
  dsimp only at ho ko
  obtain ⟨A1, c1, A2, c2, rfl, b0, b1, b2⟩ := ho
  obtain ⟨B1, d1, B2, d2, rfl, e0, e1, e2⟩ := ko
  by_cases q0 : x0 = y0
  · subst q0
    go_enter Try.func112, Try.ntmps112
    go_wp2_with fail
    refine (c_SameSubs _ _ _ _ _ _ _ (b1.up good_S (((Up.refl _).alloc _).alloc _)) (e1.up good_S (((Up.refl _).alloc _).alloc _))).mono ?_
    rintro e w1 ⟨b, rfl, hb, u1⟩
    have kx : Bk w1 w.heap.size 46 #[.int .i64 x0, .slice A1 x1.length c1, .slice A2 x2.length c2] := ((Bk.new _ _ _).alloc _).up u1
    have ky : Bk w1 (w.heap.size + 1) 46 #[.int .i64 x0, .slice B1 y1.length d1, .slice B2 y2.length d2] := Bk.up (by simpa using Bk.new (w.alloc _) _ _) u1
    have uu : Up w w1 := (((Up.refl _).alloc _).alloc _).trans u1
    have gx : w1.cell? ⟨w.heap.size, 2, none⟩ = some (.slice A2 x2.length c2) := kx.cell 2
    have gy : w1.cell? ⟨w.heap.size + 1, 2, none⟩ = some (.slice B2 y2.length d2) := ky.cell 2
    clear u1 
    rcases eqb_cases hb with ⟨rfl, q1⟩ | ⟨rfl, q1⟩
    · clear hb kx ky
      have HE : Hid (¬ (x0, x1, x2) = (x0, y1, y2)) := by unfold Hid; simp [q1]
      clear q1
      go_wp2_with fail
      go_ret
      exact EqP.f HE.out uu
    · subst q1
      have h2 := b2.up good_Put uu
      have k2 := e2.up good_Put uu
      have hlen := h2.len_le
      have klen := k2.len_le
      by_cases hl : x2.length = y2.length
      · have hbn : ((x2.length : Int) != (y2.length : Int)) = false := by simp [hl]
        have HL := Lib.hid hl; clear hl
        go_wp2_with fail
        go_loopw [5] (fun i wr => ∃ k : Nat, k ≤ x2.length ∧ i = .int .i64 k ∧ Hid (x2.take k = y2.take k) ∧ Up w1 wr) (fun i _ => x2.length - (intOf i).toNat)
        case atStart => exact ⟨0, Nat.zero_le _, rfl, rfl, Up.refl _⟩
        case round =>
          obtain ⟨j, hj, rfl, HT, hu⟩ := hrel
          have gx' : wr.cell? ⟨w.heap.size, 2, none⟩ = some (.slice A2 x2.length c2) := (kx.up hu).cell 2
          have gy' : wr.cell? ⟨w.heap.size + 1, 2, none⟩ = some (.slice B2 y2.length d2) := (ky.up hu).cell 2
          by_cases hlt : j < x2.length
          · have hlt' : j < y2.length := by rw [← HL.out]; exact hlt
            obtain ⟨g, off, rfl, _, _, hc0, hc1, b0, b1, _⟩ := atPut (h2.up good_Put hu) hlt
            obtain ⟨g', off', rfl, _, _, hd0, hd1, f0, f1, _⟩ := atPut (k2.up good_Put hu) hlt'
            have hgd := guard_Put
            by_cases he : x2[j] = y2[j]
            · have hx : ∀ W : World, (binOp .neq 142 (.agg #[.int .i64 x2[j].1, .string x2[j].2]) (.agg #[.int .i64 y2[j].1, .string y2[j].2])).run Try.prog W = .ok (.bool false) W := fun W => by rw [neq_Put]; simp [he]
              have HE := Lib.hid he; clear he
              go_wp2
              go_quiet (fail)
              go_wp2
              go_roundw
              case rel => exact ⟨j + 1, by omega, by go_num, take_snoc_eq HT.out hlt hlt' HE.out, hu.drewN _⟩
              case measure => simp [intOf]; omega
            · have hx : ∀ W : World, (binOp .neq 142 (.agg #[.int .i64 x2[j].1, .string x2[j].2]) (.agg #[.int .i64 y2[j].1, .string y2[j].2])).run Try.prog W = .ok (.bool true) W := fun W => by rw [neq_Put]; simp [he]
              have HE : Hid (¬ (x0, x1, x2) = (x0, x1, y2)) := by unfold Hid; simp [ne_of_at hlt hlt' he]
              clear he
              go_wp2
              go_quiet (fail)
              go_wp2
              go_ret
              exact EqP.f HE.out ((uu.trans hu).drewN _)
          · have HE : Hid ((x0, x1, x2) = (x0, x1, y2)) := by rw [take_all_eq HT.out (by omega) (by rw [← HL.out]; omega)]; rfl
            go_wp2
            go_ret
            exact EqP.t HE.out (uu.trans hu)
      · have hbn : ((x2.length : Int) != (y2.length : Int)) = true := by rw [bne_iff_ne]; omega
        have HE : Hid (¬ (x0, x1, x2) = (x0, x1, y2)) := by unfold Hid; simp [ne_of_len hl]
        clear hl
        go_wp2_with fail
        go_ret
        exact EqP.f HE.out uu
  · have hx : (x0 != y0) = true := by simp [q0]
    have HE : Hid (¬ (x0, x1, x2) = (y0, y1, y2)) := by unfold Hid; simp [q0]
    clear q0
    go_enter Try.func112, Try.ntmps112
    go_wp2_with fail
    go_ret
    exact EqP.f HE.out (((Up.refl _).alloc _).alloc _)

theorem cs_SameDisk (v0 : Value) (x0 : TDisk) (v1 : Value) (x1 : TDisk) (w : World) (h0 : AV shDisk w v0 x0) (_n0 : shDisk.sz x0 ≤ 1048576) (h1 : AV shDisk w v1 x1) (_n1 : shDisk.sz x1 ≤ 1048576) :
    Calls Try.prog 112 #[v0, v1] w (EqP (x0 = x1) w) := c_specSameDisk v0 v1 x0 x1 w h0 h1
theorem ci_SameDisk (v0 : Value) (x0 : TDisk) (v1 : Value) (x1 : TDisk) (w : World) (h0 : AV shDisk w v0 x0) (_n0 : shDisk.sz x0 ≤ 1048576) (h1 : AV shDisk w v1 x1) (_n1 : shDisk.sz x1 ≤ 1048576) :
    Calls Try.prog 118 #[v0, v1] w (EqP (x0 = x1) w) := c_implSameDisk v0 v1 x0 x1 w h0 h1
end Go.Proofs.Ytidfeipilleafaa
