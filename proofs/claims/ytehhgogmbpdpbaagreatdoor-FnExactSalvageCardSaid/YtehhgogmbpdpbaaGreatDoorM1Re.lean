/-
  Records: the laws' eq, mark and held helpers, by genlaw.py and genmark.py.
-/
import Derived.Test.YtehhgogmbpdpbaaGreatDoorM1M
import Derived.Test.YtehhgogmbpdpbaaGreatDoorM1Le
import Derived.Test.YtehhgogmbpdpbaaGreatDoorM1Rt
import Derived.Test.YtehhgogmbpdpbaaGreatDoorM1A
import Derived.StillTailTactics
namespace Go.Proofs.YtehhgogmbpdpbaaGreatDoor
open Go.RowKit
set_option linter.unusedSimpArgs false
set_option linter.unusedVariables false

set_option maxHeartbeats 1000000 in
theorem c_eqRecord (v u : Value) (x y : TRecord) (w : World) (h : AV shRecord w v x) (k : AV shRecord w u y) :
    Calls Tryz.prog 54 #[v, u] w (EqP (x = y) w) := by
  obtain ⟨cs, rfl, h⟩ := h
  obtain ⟨x0, x1⟩ := x
  have ho := openRecord h
  try dsimp only at ho
  obtain ⟨rfl, b0, b1⟩ := ho
  obtain ⟨ds, rfl, k⟩ := k
  obtain ⟨y0, y1⟩ := y
  have ko := openRecord k
  try dsimp only at ko
  obtain ⟨rfl, e0, e1⟩ := ko
  have kx0 : Bk ((w.alloc (.cells #[.string x0, .string x1] 91)).alloc (.cells #[.string y0, .string y1] 91)) w.heap.size 91 #[.string x0, .string x1] := (Bk.new _ _ _).alloc _
  have ky0 : Bk ((w.alloc (.cells #[.string x0, .string x1] 91)).alloc (.cells #[.string y0, .string y1] 91)) (w.heap.size + 1) 91 #[.string y0, .string y1] := by simpa using Bk.new (w.alloc (.cells #[.string x0, .string x1] 91)) 91 #[.string y0, .string y1]
  have uu0 : Up w ((w.alloc (.cells #[.string x0, .string x1] 91)).alloc (.cells #[.string y0, .string y1] 91)) := ((Up.refl _).alloc _).alloc _
  by_cases e_0 : ¬ x0 = y0
  · have hx : (x0.toList == y0.toList) = false := by rw [str_beq]; simp [e_0]
    have HE : Hid (¬ (x0, x1) = (y0, y1)) := by unfold Hid; intro hh; (try simp only [Prod.mk.injEq] at hh); exact e_0 (by simp [hh])
    clear e_0
    go_enter Tryz.func54, Tryz.ntmps54
    go_wp2_with fail
    go_ret
    exact EqP.f HE.out uu0
  replace e_0 := Decidable.of_not_not e_0
  subst e_0
  by_cases e_1 : ¬ x1 = y1
  · have hx : (x1.toList == y1.toList) = false := by rw [str_beq]; simp [e_1]
    have HE : Hid (¬ (x0, x1) = (x0, y1)) := by unfold Hid; intro hh; (try simp only [Prod.mk.injEq] at hh); exact e_1 (by simp [hh])
    clear e_1
    go_enter Tryz.func54, Tryz.ntmps54
    go_wp2_with fail
    go_ret
    exact EqP.f HE.out uu0
  replace e_1 := Decidable.of_not_not e_1
  subst e_1
  go_enter Tryz.func54, Tryz.ntmps54
  go_wp2_with fail
  go_ret
  exact EqP.t (by simp) uu0

set_option maxRecDepth 100000 in
set_option maxHeartbeats 1000000 in
theorem c_eqRecordS (xs ys : List TRecord) (A B : Option Addr) (c d : Nat) (w : World) (h : SRW shRecord w A c xs) (k : SRW shRecord w B d ys) :
    Calls Tryz.prog 23 #[.slice A xs.length c, .slice B ys.length d] w (EqP (xs = ys) w) := by
  have hlen := h.len_le
  have klen := k.len_le
  by_cases hl : xs.length = ys.length
  · have hb : ((xs.length : Int) != (ys.length : Int)) = false := by simp [hl]
    have HL := Lib.hid hl; clear hl
    go_enter Tryz.func23, Tryz.ntmps23
    go_wp2
    go_loopw [5] (fun i wr => ∃ k : Nat, k ≤ xs.length ∧ i = .int .i64 k ∧ Hid (xs.take k = ys.take k) ∧ Up w wr) (fun i _ => xs.length - (intOf i).toNat)
    case atStart => exact ⟨0, Nat.zero_le _, rfl, rfl, Up.refl _⟩
    case round =>
      obtain ⟨j, hj, rfl, HT, hu⟩ := hrel
      by_cases hlt : j < xs.length
      · have hlt' : j < ys.length := by rw [← HL.out]; exact hlt
        obtain ⟨g, off, rfl, _, _, hc0, hc1, b0, b1, _⟩ := atRecord (h.up good_Record hu) hlt
        obtain ⟨g', off', rfl, _, _, hd0, hd1, f0, f1, _⟩ := atRecord (k.up good_Record hu) hlt'
        go_wp2_with fail
        go_still_tail 8, (by kernel_rfl)
        change wpList _ _ _ _ _ wr.drew
        go_wp2_with fail
        refine (c_eqRecord _ _ xs[j] ys[j] _ (AV.up good_Record ⟨_, rfl, mkRecord (x := xs[j]) b0 b1⟩ ((Up.refl wr).drew)) (AV.up good_Record ⟨_, rfl, mkRecord (x := ys[j]) f0 f1⟩ ((Up.refl wr).drew))).mono ?_
        rintro e w1 ⟨bb, rfl, hbb, hu1⟩
        rcases (eqb_cases hbb).symm with ⟨rfl, he⟩ | ⟨rfl, he⟩
        · clear hbb
          have HE := Lib.hid he; clear he
          go_wp2_with fail
          go_roundw
          case rel => exact ⟨j + 1, by omega, by go_num, take_snoc_eq HT.out hlt hlt' HE.out, hu.drew.trans hu1⟩
          case measure => simp [intOf]; omega
        · clear hbb
          have HE := Lib.hid (ne_of_at hlt hlt' he); clear he
          go_wp2_with fail
          go_ret
          exact EqP.f HE.out (hu.drew.trans hu1)
      · have HE := Lib.hid (take_all_eq HT.out (by omega) (by rw [← HL.out]; omega))
        go_wp2
        go_ret
        exact EqP.t HE.out hu
  · have hb : ((xs.length : Int) != (ys.length : Int)) = true := by rw [bne_iff_ne]; omega
    have HE := Lib.hid (ne_of_len hl); clear hl
    go_enter Tryz.func23, Tryz.ntmps23
    go_wp2
    go_ret
    exact EqP.f HE.out (Up.refl _)

def mmRecord : Mk TRecord := (mkP mkS mkS)
theorem gm_Record : GoodM mmRecord := (gm_P gm_S gm_S)
set_option maxRecDepth 100000 in
set_option maxHeartbeats 4000000 in
theorem c_markRecordS (xs : List TRecord) (A : Option Addr) (c : Nat) (k : Int) (lo hi : Nat) (bl : List Nat) (w : World) (h : SO shRecord w lo hi A c xs bl) (hhi : hi ≤ w.heap.size) (hnd : bl.Nodup) (hk0 : 0 < k) (hk1 : k + ((mkL mmRecord).cnt xs : Nat) ≤ 1000000000) :
    Calls Tryz.prog 26 #[.slice A xs.length c, .int .i64 k] w (MarkL shRecord mmRecord lo hi A c xs k bl w) := by
  have hlen : xs.length ≤ 9223372036854775807 := (h.rep good_Record).len_le
  have hk2 : k + ((xs.map (mmRecord).cnt).sum : Nat) ≤ 1000000000 := hk1
  clear hk1
  go_enter Tryz.func26, Tryz.ntmps26
  go_wp2_with fail
  go_loopw [1, 5] (fun a b wr => ∃ (i : Nat) (K : Int), i ≤ xs.length ∧ a = .int .i64 K ∧ b = .int .i64 i ∧ Hid (K = k + psum (mmRecord).cnt xs i) ∧ 0 < K ∧ K ≤ 1000000000 ∧ SO shRecord wr lo hi A c (pm mmRecord xs k i) bl ∧ Only bl w wr) (fun _ b _ => xs.length - (intOf b).toNat)
  case atStart => exact ⟨0, k, Nat.zero_le _, rfl, rfl, by unfold Hid; rw [psum_zero]; simp, hk0, by omega, by rw [pm_zero]; exact h, Only.refl _ _⟩
  case round =>
    obtain ⟨i, K, hii, rfl, rfl, HK, hK0, hK1, hS, hO⟩ := hrel
    by_cases hlt : i < xs.length
    · have hps := psum_le (mmRecord).cnt xs (i + 1)
      rw [psum_succ (mmRecord).cnt xs i hlt] at hps
      have hKb : K + ((mmRecord).cnt xs[i] : Nat) ≤ 1000000000 := by rw [HK.out]; omega
      have HK2 : Hid (K + ((mmRecord).cnt xs[i] : Nat) = k + psum (mmRecord).cnt xs (i + 1)) := by unfold Hid; rw [HK.out, psum_succ (mmRecord).cnt xs i hlt]; omega
      have hhi2 : hi ≤ wr.heap.size := Nat.le_trans hhi hO.size
      obtain ⟨g, off, C, tid, b, cs, rfl, hg1, hg2, hbk, hcl, hcells, ho, hgm, hgb, hbn, hbm, hput⟩ := hS.focus good_Record hnd (pm_at mmRecord xs k i hlt)
      clear hcl hps
      have hKc : K + ((1 + (1) : Nat) : Int) ≤ 1000000000 := hKb
      obtain ⟨rfl, hbe, f0, f1⟩ := openORecord ho
      have e0 : C[off + i * 2]? = some (.string xs[i].1) := hcells 0 (by decide)
      have e1 : C[off + i * 2 + 1]? = some (.string xs[i].2) := hcells 1 (by decide)
      have c0_0 : wr.cell? ⟨g, off + i * 2, none⟩ = some (.string xs[i].1) := by rw [hbk.cell]; exact e0
      have z0_0 : wr.frozen? ⟨g, off + i * 2, none⟩ = false := hbk.frozen _
      have c0_1 : wr.cell? ⟨g, off + i * 2 + 1, none⟩ = some (.string xs[i].2) := by rw [hbk.cell]; exact e1
      have z0_1 : wr.frozen? ⟨g, off + i * 2 + 1, none⟩ = false := hbk.frozen _
      go_wp2_with fail
      refine (c_markText _ _ (by omega) (by omega)).mono ?_
      rintro e w1 ⟨rfl, u1⟩
      have kb1 := hbk.up u1
      have on1 := hO.up u1
      have sz1 : hi ≤ w1.heap.size := Nat.le_trans hhi on1.size
      have re1 : ∀ y, y < hi → y ≠ g → y ∉ b → w1.heap[y]? = wr.heap[y]? := fun y hy hyg hyb => (u1.block y (Nat.lt_of_lt_of_le hy (Nat.le_trans hhi hO.size)))
      have c1_0 : w1.cell? ⟨g, off + i * 2, none⟩ = some (.string xs[i].1) := by rw [kb1.cell]; exact e0
      have z1_0 : w1.frozen? ⟨g, off + i * 2, none⟩ = false := kb1.frozen _
      have c1_1 : w1.cell? ⟨g, off + i * 2 + 1, none⟩ = some (.string xs[i].2) := by rw [kb1.cell]; exact e1
      have z1_1 : w1.frozen? ⟨g, off + i * 2 + 1, none⟩ = false := kb1.frozen _
      clear u1
      go_wp2_with fail
      have kb2 : Bk (w1.setCell ⟨g, off + i * 2, none⟩ (.string (mtext K))) g tid (C.setIfInBounds (off + i * 2) (.string (mtext K))) := (kb1.set (off + i * 2) (.string (mtext K)))
      have on2 : Only bl w (w1.setCell ⟨g, off + i * 2, none⟩ (.string (mtext K))) := (on1.but (But.set _ g (off + i * 2) (.string (mtext K))) hgm)
      have bu2 : But g w1 (w1.setCell ⟨g, off + i * 2, none⟩ (.string (mtext K))) := But.set _ g (off + i * 2) (.string (mtext K))
      have re2 : ∀ y, y < hi → y ≠ g → y ∉ b → (w1.setCell ⟨g, off + i * 2, none⟩ (.string (mtext K))).heap[y]? = wr.heap[y]? := fun y hy hyg hyb => (bu2.block y hyg).trans (re1 y hy hyg hyb)
      refine (c_markText _ _ (by omega) (by omega)).mono ?_
      rintro e w3 ⟨rfl, u3⟩
      have kb3 := kb2.up u3
      have on3 := on2.up u3
      have sz3 : hi ≤ w3.heap.size := Nat.le_trans hhi on3.size
      have re3 : ∀ y, y < hi → y ≠ g → y ∉ b → w3.heap[y]? = wr.heap[y]? := fun y hy hyg hyb => (u3.block y (Nat.lt_of_lt_of_le hy (Nat.le_trans hhi on2.size))).trans (re2 y hy hyg hyb)
      have c3_0 : w3.cell? ⟨g, off + i * 2, none⟩ = some (.string (mtext K)) := by rw [kb3.cell]; exact set_same rfl e0
      have z3_0 : w3.frozen? ⟨g, off + i * 2, none⟩ = false := kb3.frozen _
      have c3_1 : w3.cell? ⟨g, off + i * 2 + 1, none⟩ = some (.string xs[i].2) := by rw [kb3.cell]; rw [set_ne (by omega)]; exact e1
      have z3_1 : w3.frozen? ⟨g, off + i * 2 + 1, none⟩ = false := kb3.frozen _
      clear u3
      go_wp2_with fail
      have kb4 : Bk (w3.setCell ⟨g, off + i * 2 + 1, none⟩ (.string (mtext (K + 1)))) g tid ((C.setIfInBounds (off + i * 2) (.string (mtext K))).setIfInBounds (off + i * 2 + 1) (.string (mtext (K + 1)))) := (kb3.set (off + i * 2 + 1) (.string (mtext (K + 1))))
      have on4 : Only bl w (w3.setCell ⟨g, off + i * 2 + 1, none⟩ (.string (mtext (K + 1)))) := (on3.but (But.set _ g (off + i * 2 + 1) (.string (mtext (K + 1)))) hgm)
      have bu4 : But g w3 (w3.setCell ⟨g, off + i * 2 + 1, none⟩ (.string (mtext (K + 1)))) := But.set _ g (off + i * 2 + 1) (.string (mtext (K + 1)))
      have re4 : ∀ y, y < hi → y ≠ g → y ∉ b → (w3.setCell ⟨g, off + i * 2 + 1, none⟩ (.string (mtext (K + 1)))).heap[y]? = wr.heap[y]? := fun y hy hyg hyb => (bu4.block y hyg).trans (re3 y hy hyg hyb)
      have hxm : (mmRecord).mark xs[i] K = ((mtext (K)), (mtext (K + 1))) := rfl
      have hown : shRecord.own (w3.setCell ⟨g, off + i * 2 + 1, none⟩ (.string (mtext (K + 1)))) lo hi [.string (mtext K), .string (mtext (K + 1))] ((mtext (K)), (mtext (K + 1))) b := by rw [hbe]; exact mkORecord (x := ((mtext (K)), (mtext (K + 1)))) (mtext_le (by omega)) (mtext_le (by omega))
      have hcell : ∀ j, j < shRecord.size → ((C.setIfInBounds (off + i * 2) (.string (mtext K))).setIfInBounds (off + i * 2 + 1) (.string (mtext (K + 1))))[off + (i * shRecord.size + j)]? = [.string (mtext K), .string (mtext (K + 1))][j]? := by
        intro j hj
        have hj' : j < 2 := hj
        by_cases hj0 : j = 0
        · subst hj0
          show ((C.setIfInBounds (off + i * 2) (.string (mtext K))).setIfInBounds (off + i * 2 + 1) (.string (mtext (K + 1))))[off + (i * 2 + 0)]? = some _
          rw [show off + (i * 2 + 0) = off + i * 2 by omega]
          rw [set_ne (by omega)]; exact set_same rfl e0
        by_cases hj1 : j = 1
        · subst hj1
          show ((C.setIfInBounds (off + i * 2) (.string (mtext K))).setIfInBounds (off + i * 2 + 1) (.string (mtext (K + 1))))[off + (i * 2 + 1)]? = some _
          rw [show off + (i * 2 + 1) = off + i * 2 + 1 by omega]
          exact set_same rfl (by rw [set_ne (by omega)]; exact e1)
        omega
      have hfar : ∀ p, (p < off + i * shRecord.size ∨ off + i * shRecord.size + shRecord.size ≤ p) → ((C.setIfInBounds (off + i * 2) (.string (mtext K))).setIfInBounds (off + i * 2 + 1) (.string (mtext (K + 1))))[p]? = C[p]? := by
        intro p hp
        have hp' : p < off + i * 2 ∨ off + i * 2 + 2 ≤ p := hp
        rw [set_ne (by omega)]; rw [set_ne (by omega)]
      have hS2 := hput _ _ _ _ kb4 hcell hfar hown (fun y hy hyg hyb => re4 y (hS.in_ good_Record y hy).2 hyg hyb)
      have hpm : (pm mmRecord xs k i).set i ((mtext (K)), (mtext (K + 1))) = pm mmRecord xs k (i + 1) := by rw [← hxm, HK.out]; exact pm_succ mmRecord xs k i hlt
      rw [hpm] at hS2
      clear hpm hxm
      have hcn : ((mmRecord).cnt xs[i] : Nat) = 1 + (1) := rfl
      have HK3 : Hid (K + 1 + 1 = k + psum (mmRecord).cnt xs (i + 1)) := by unfold Hid; rw [← HK2.out, hcn]; omega
      have hk5 : K + 1 + 1 ≤ 1000000000 := by rw [hcn] at hKb; omega
      clear hcn
      go_roundw
      case rel => exact ⟨i + 1, K + 1 + 1, by omega, rfl, by go_num, HK3, by omega, hk5, hS2, on4⟩
      case measure => simp [intOf]; omega
    · have HE : Hid (K = k + ((mkL mmRecord).cnt xs : Nat)) := by unfold Hid; rw [HK.out]; show _ = k + (((xs.map (mmRecord).cnt).sum : Nat) : Int); rw [← psum_all (mmRecord).cnt xs, show i = xs.length by omega]
      rw [pm_all mmRecord xs k i (by omega)] at hS
      go_wp2_with fail
      go_ret
      exact MarkL.mk HE hS hO

set_option maxRecDepth 100000 in
set_option maxHeartbeats 4000000 in
theorem c_heldRecordS (xs : List TRecord) (A : Option Addr) (c : Nat) (k : Int) (w : World) (h : SRW shRecord w A c xs) (hm : markL mmRecord xs k = xs) (hk0 : 0 < k) (hk1 : k + ((mkL mmRecord).cnt xs : Nat) ≤ 1000000000) :
    Calls Tryz.prog 27 #[.slice A xs.length c, .int .i64 k] w (HeldP (k + ((mkL mmRecord).cnt xs : Nat)) w) := by
  have hlen := h.len_le
  have HM := Lib.hid hm; clear hm
  have hk2 : k + ((xs.map (mmRecord).cnt).sum : Nat) ≤ 1000000000 := hk1
  clear hk1
  go_enter Tryz.func27, Tryz.ntmps27
  go_wp2_with fail
  go_loopw [1, 5] (fun a b wr => ∃ (i : Nat) (K : Int), i ≤ xs.length ∧ a = .int .i64 K ∧ b = .int .i64 i ∧ Hid (K = k + psum (mmRecord).cnt xs i) ∧ 0 < K ∧ K ≤ 1000000000 ∧ Up w wr) (fun _ b _ => xs.length - (intOf b).toNat)
  case atStart => exact ⟨0, k, Nat.zero_le _, rfl, rfl, by unfold Hid; rw [psum_zero]; simp, hk0, by omega, Up.refl _⟩
  case round =>
    obtain ⟨i, K, hii, rfl, rfl, HK, hK0, hK1, hu⟩ := hrel
    by_cases hlt : i < xs.length
    · have hps := psum_le (mmRecord).cnt xs (i + 1)
      rw [psum_succ (mmRecord).cnt xs i hlt] at hps
      have hKb : K + ((mmRecord).cnt xs[i] : Nat) ≤ 1000000000 := by rw [HK.out]; omega
      have HK2 : Hid (K + ((mmRecord).cnt xs[i] : Nat) = k + psum (mmRecord).cnt xs (i + 1)) := by unfold Hid; rw [HK.out, psum_succ (mmRecord).cnt xs i hlt]; omega
      clear hps
      have hmi : (mmRecord).mark xs[i] K = xs[i] := by rw [HK.out]; exact marked_at HM.out hlt
      have hKc : K + ((1 + (1) : Nat) : Int) ≤ 1000000000 := hKb
      have v0 : (mtext (K)) = xs[i].1 := congrArg (fun q : TRecord => q.1) hmi
      have v1 : (mtext (K + 1)) = xs[i].2 := congrArg (fun q : TRecord => q.2) hmi
      clear hmi
      obtain ⟨g, off, rfl, _, _, hc0, hc1, b0, b1, _⟩ := atRecord (h.up good_Record hu) hlt
      rw [← v0] at hc0
      clear v0
      rw [← v1] at hc1
      clear v1
      go_wp2_with fail
      have t0_0 := fun t : UpT wr => cell_up t hc0
      have t0_1 := fun t : UpT wr => cell_up t hc1
      refine wp_region_up (by kernel_rfl) (by kernel_rfl) ?_
      repeat (go_big_quiet_step ((go_at_call 43; exact up_call (c_markText _ _ (by omega) (by omega)) (UpT.up _))))
      refine wpQuiet_nil ?_
      clear t0_0 t0_1
      rintro w1 ⟨⟨_, u1⟩, rfl⟩
      try dsimp only
      have l1 := u1
      have c1_0 : w1.cell? ⟨g, off + i * 2, none⟩ = some (.string (mtext (K))) := (l1.cell (cell_lt hc0)).trans hc0
      have c1_1 : w1.cell? ⟨g, off + i * 2 + 1, none⟩ = some (.string (mtext (K + 1))) := (l1.cell (cell_lt hc1)).trans hc1
      go_wp2_with fail
      have t1_0 := fun t : UpT w1 => cell_up t c1_0
      have t1_1 := fun t : UpT w1 => cell_up t c1_1
      refine wp_region_up (by kernel_rfl) (by kernel_rfl) ?_
      repeat (go_big_quiet_step ((go_at_call 43; exact up_call (c_markText _ _ (by omega) (by omega)) (UpT.up _))))
      refine wpQuiet_nil ?_
      clear t1_0 t1_1
      rintro w2 ⟨⟨_, u2⟩, rfl⟩
      try dsimp only
      have l2 := l1.trans u2
      have c2_0 : w2.cell? ⟨g, off + i * 2, none⟩ = some (.string (mtext (K))) := (l2.cell (cell_lt hc0)).trans hc0
      have c2_1 : w2.cell? ⟨g, off + i * 2 + 1, none⟩ = some (.string (mtext (K + 1))) := (l2.cell (cell_lt hc1)).trans hc1
      go_wp2_with fail
      have hcn : ((mmRecord).cnt xs[i] : Nat) = 1 + (1) := rfl
      have HK3 : Hid (K + 1 + 1 = k + psum (mmRecord).cnt xs (i + 1)) := by unfold Hid; rw [← HK2.out, hcn]; omega
      have hk5 : K + 1 + 1 ≤ 1000000000 := by rw [hcn] at hKb; omega
      clear hcn
      go_roundw
      case rel => exact ⟨i + 1, K + 1 + 1, by omega, rfl, by go_num, HK3, by omega, hk5, hu.trans l2⟩
      case measure => simp [intOf]; omega
    · have HE : Hid (K = k + ((mkL mmRecord).cnt xs : Nat)) := by unfold Hid; rw [HK.out]; show _ = k + (((xs.map (mmRecord).cnt).sum : Nat) : Int); rw [← psum_all (mmRecord).cnt xs, show i = xs.length by omega]
      go_wp2_with fail
      go_ret
      exact HeldP.mk HE hu

end Go.Proofs.YtehhgogmbpdpbaaGreatDoor
