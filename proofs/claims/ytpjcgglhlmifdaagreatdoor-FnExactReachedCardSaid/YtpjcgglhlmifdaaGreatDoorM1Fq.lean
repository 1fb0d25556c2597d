/-
  Faults: the laws' eq, mark and held helpers, by genlaw.py and genmark.py.
-/
import Derived.Test.YtpjcgglhlmifdaaGreatDoorM1M
import Derived.Test.YtpjcgglhlmifdaaGreatDoorM1Le
import Derived.Test.YtpjcgglhlmifdaaGreatDoorM1Bpg
import Derived.Test.YtpjcgglhlmifdaaGreatDoorM1A
import Derived.StillTailTactics
namespace Go.Proofs.YtpjcgglhlmifdaaGreatDoor
open Go.RowKit
set_option linter.unusedSimpArgs false
set_option linter.unusedVariables false

set_option maxHeartbeats 1000000 in
theorem c_eqFault (v u : Value) (x y : TFault) (w : World) (h : AV shFault w v x) (k : AV shFault w u y) :
    Calls Tryz.prog 66 #[v, u] w (EqP (x = y) w) := by
  obtain ⟨cs, rfl, h⟩ := h
  obtain ⟨x0, x1⟩ := x
  have ho := openFault h
  try dsimp only at ho
  obtain ⟨rfl, b0, b1⟩ := ho
  obtain ⟨ds, rfl, k⟩ := k
  obtain ⟨y0, y1⟩ := y
  have ko := openFault k
  try dsimp only at ko
  obtain ⟨rfl, e0, e1⟩ := ko
  have kx0 : Bk ((w.alloc (.cells #[.int .i64 x0, .int .i64 x1] 122)).alloc (.cells #[.int .i64 y0, .int .i64 y1] 122)) w.heap.size 122 #[.int .i64 x0, .int .i64 x1] := (Bk.new _ _ _).alloc _
  have ky0 : Bk ((w.alloc (.cells #[.int .i64 x0, .int .i64 x1] 122)).alloc (.cells #[.int .i64 y0, .int .i64 y1] 122)) (w.heap.size + 1) 122 #[.int .i64 y0, .int .i64 y1] := by simpa using Bk.new (w.alloc (.cells #[.int .i64 x0, .int .i64 x1] 122)) 122 #[.int .i64 y0, .int .i64 y1]
  have uu0 : Up w ((w.alloc (.cells #[.int .i64 x0, .int .i64 x1] 122)).alloc (.cells #[.int .i64 y0, .int .i64 y1] 122)) := ((Up.refl _).alloc _).alloc _
  by_cases e_0 : ¬ x0 = y0
  · have hx : (x0 != y0) = true := by simp [e_0]
    have HE : Hid (¬ (x0, x1) = (y0, y1)) := by unfold Hid; intro hh; (try simp only [Prod.mk.injEq] at hh); exact e_0 (by simp [hh])
    clear e_0
    go_enter Tryz.func66, Tryz.ntmps66
    go_wp2_with fail
    go_ret
    exact EqP.f HE.out uu0
  replace e_0 := Decidable.of_not_not e_0
  subst e_0
  by_cases e_1 : ¬ x1 = y1
  · have hx : (x1 != y1) = true := by simp [e_1]
    have HE : Hid (¬ (x0, x1) = (x0, y1)) := by unfold Hid; intro hh; (try simp only [Prod.mk.injEq] at hh); exact e_1 (by simp [hh])
    clear e_1
    go_enter Tryz.func66, Tryz.ntmps66
    go_wp2_with fail
    go_ret
    exact EqP.f HE.out uu0
  replace e_1 := Decidable.of_not_not e_1
  subst e_1
  go_enter Tryz.func66, Tryz.ntmps66
  go_wp2_with fail
  go_ret
  exact EqP.t (by simp) uu0

set_option maxRecDepth 100000 in
set_option maxHeartbeats 1000000 in
theorem c_eqFaultS (xs ys : List TFault) (A B : Option Addr) (c d : Nat) (w : World) (h : SRW shFault w A c xs) (k : SRW shFault w B d ys) :
    Calls Tryz.prog 31 #[.slice A xs.length c, .slice B ys.length d] w (EqP (xs = ys) w) := by
  have hlen := h.len_le
  have klen := k.len_le
  by_cases hl : xs.length = ys.length
  · have hb : ((xs.length : Int) != (ys.length : Int)) = false := by simp [hl]
    have HL := Lib.hid hl; clear hl
    go_enter Tryz.func31, Tryz.ntmps31
    go_wp2
    go_loopw [5] (fun i wr => ∃ k : Nat, k ≤ xs.length ∧ i = .int .i64 k ∧ Hid (xs.take k = ys.take k) ∧ Up w wr) (fun i _ => xs.length - (intOf i).toNat)
    case atStart => exact ⟨0, Nat.zero_le _, rfl, rfl, Up.refl _⟩
    case round =>
      obtain ⟨j, hj, rfl, HT, hu⟩ := hrel
      by_cases hlt : j < xs.length
      · have hlt' : j < ys.length := by rw [← HL.out]; exact hlt
        obtain ⟨g, off, rfl, _, _, hc0, hc1, b0, b1, _⟩ := atFault (h.up good_Fault hu) hlt
        obtain ⟨g', off', rfl, _, _, hd0, hd1, f0, f1, _⟩ := atFault (k.up good_Fault hu) hlt'
        go_wp2_with fail
        go_still_tail 8, (by kernel_rfl)
        change wpList _ _ _ _ _ wr.drew
        go_wp2_with fail
        refine (c_eqFault _ _ xs[j] ys[j] _ (AV.up good_Fault ⟨_, rfl, mkFault (x := xs[j]) b0 b1⟩ ((Up.refl wr).drew)) (AV.up good_Fault ⟨_, rfl, mkFault (x := ys[j]) f0 f1⟩ ((Up.refl wr).drew))).mono ?_
        rintro e w1 ⟨bb, rfl, hbb, hu1⟩
        rcases (eqb_cases hbb).symm with ⟨rfl, he⟩ | ⟨rfl, he⟩
        · clear hbb
          have HE := Lib.hid he; clear he
          go_wp2_with fail
          go_roundw
          case rel => exact ⟨j + 1, by omega, by go_num, take_snoc_eq HT.out hlt hlt' HE.out, hu.drew.trans hu1⟩
          case measure => simp [intOf]; omega
        · clear hbb
          have HE := Lib.hid (ne_of_at hlt hlt' he); clear he
          go_wp2_with fail
          go_ret
          exact EqP.f HE.out (hu.drew.trans hu1)
      · have HE := Lib.hid (take_all_eq HT.out (by omega) (by rw [← HL.out]; omega))
        go_wp2
        go_ret
        exact EqP.t HE.out hu
  · have hb : ((xs.length : Int) != (ys.length : Int)) = true := by rw [bne_iff_ne]; omega
    have HE := Lib.hid (ne_of_len hl); clear hl
    go_enter Tryz.func31, Tryz.ntmps31
    go_wp2
    go_ret
    exact EqP.f HE.out (Up.refl _)

def mmFault : Mk TFault := (mkP mkI mkI)
theorem gm_Fault : GoodM mmFault := (gm_P gm_I gm_I)
set_option maxRecDepth 100000 in
set_option maxHeartbeats 4000000 in
theorem c_markFaultS (xs : List TFault) (A : Option Addr) (c : Nat) (k : Int) (lo hi : Nat) (bl : List Nat) (w : World) (h : SO shFault w lo hi A c xs bl) (hhi : hi ≤ w.heap.size) (hnd : bl.Nodup) (hk0 : 0 < k) (hk1 : k + ((mkL mmFault).cnt xs : Nat) ≤ 1000000000) :
    Calls Tryz.prog 32 #[.slice A xs.length c, .int .i64 k] w (MarkL shFault mmFault lo hi A c xs k bl w) := by
  have hlen : xs.length ≤ 9223372036854775807 := (h.rep good_Fault).len_le
  have hk2 : k + ((xs.map (mmFault).cnt).sum : Nat) ≤ 1000000000 := hk1
  clear hk1
  go_enter Tryz.func32, Tryz.ntmps32
  go_wp2_with fail
  go_loopw [1, 5] (fun a b wr => ∃ (i : Nat) (K : Int), i ≤ xs.length ∧ a = .int .i64 K ∧ b = .int .i64 i ∧ Hid (K = k + psum (mmFault).cnt xs i) ∧ 0 < K ∧ K ≤ 1000000000 ∧ SO shFault wr lo hi A c (pm mmFault xs k i) bl ∧ Only bl w wr) (fun _ b _ => xs.length - (intOf b).toNat)
  case atStart => exact ⟨0, k, Nat.zero_le _, rfl, rfl, by unfold Hid; rw [psum_zero]; simp, hk0, by omega, by rw [pm_zero]; exact h, Only.refl _ _⟩
  case round =>
    obtain ⟨i, K, hii, rfl, rfl, HK, hK0, hK1, hS, hO⟩ := hrel
    by_cases hlt : i < xs.length
    · have hps := psum_le (mmFault).cnt xs (i + 1)
      rw [psum_succ (mmFault).cnt xs i hlt] at hps
      have hKb : K + ((mmFault).cnt xs[i] : Nat) ≤ 1000000000 := by rw [HK.out]; omega
      have HK2 : Hid (K + ((mmFault).cnt xs[i] : Nat) = k + psum (mmFault).cnt xs (i + 1)) := by unfold Hid; rw [HK.out, psum_succ (mmFault).cnt xs i hlt]; omega
      have hhi2 : hi ≤ wr.heap.size := Nat.le_trans hhi hO.size
      obtain ⟨g, off, C, tid, b, cs, rfl, hg1, hg2, hbk, hcl, hcells, ho, hgm, hgb, hbn, hbm, hput⟩ := hS.focus good_Fault hnd (pm_at mmFault xs k i hlt)
      clear hcl hps
      have hKc : K + ((1 + (1) : Nat) : Int) ≤ 1000000000 := hKb
      obtain ⟨rfl, hbe, f0, f1⟩ := openOFault ho
      have e0 : C[off + i * 2]? = some (.int .i64 xs[i].1) := hcells 0 (by decide)
      have e1 : C[off + i * 2 + 1]? = some (.int .i64 xs[i].2) := hcells 1 (by decide)
      have c0_0 : wr.cell? ⟨g, off + i * 2, none⟩ = some (.int .i64 xs[i].1) := by rw [hbk.cell]; exact e0
      have z0_0 : wr.frozen? ⟨g, off + i * 2, none⟩ = false := hbk.frozen _
      have c0_1 : wr.cell? ⟨g, off + i * 2 + 1, none⟩ = some (.int .i64 xs[i].2) := by rw [hbk.cell]; exact e1
      have z0_1 : wr.frozen? ⟨g, off + i * 2 + 1, none⟩ = false := hbk.frozen _
      go_wp2_with fail
      have kb1 : Bk ((wr.setCell ⟨g, off + i * 2, none⟩ (.int .i64 K)).setCell ⟨g, off + i * 2 + 1, none⟩ (.int .i64 (K + 1))) g tid ((C.setIfInBounds (off + i * 2) (.int .i64 K)).setIfInBounds (off + i * 2 + 1) (.int .i64 (K + 1))) := ((hbk.set (off + i * 2) (.int .i64 K)).set (off + i * 2 + 1) (.int .i64 (K + 1)))
      have on1 : Only bl w ((wr.setCell ⟨g, off + i * 2, none⟩ (.int .i64 K)).setCell ⟨g, off + i * 2 + 1, none⟩ (.int .i64 (K + 1))) := ((hO.but (But.set _ g (off + i * 2) (.int .i64 K)) hgm).but (But.set _ g (off + i * 2 + 1) (.int .i64 (K + 1))) hgm)
      have bu1 : But g wr ((wr.setCell ⟨g, off + i * 2, none⟩ (.int .i64 K)).setCell ⟨g, off + i * 2 + 1, none⟩ (.int .i64 (K + 1))) := (But.set _ g (off + i * 2) (.int .i64 K)).trans (But.set _ g (off + i * 2 + 1) (.int .i64 (K + 1)))
      have re1 : ∀ y, y < hi → y ≠ g → y ∉ b → ((wr.setCell ⟨g, off + i * 2, none⟩ (.int .i64 K)).setCell ⟨g, off + i * 2 + 1, none⟩ (.int .i64 (K + 1))).heap[y]? = wr.heap[y]? := fun y hy hyg hyb => (bu1.block y hyg)
      have hxm : (mmFault).mark xs[i] K = ((K), (K + 1)) := rfl
      have hown : shFault.own ((wr.setCell ⟨g, off + i * 2, none⟩ (.int .i64 K)).setCell ⟨g, off + i * 2 + 1, none⟩ (.int .i64 (K + 1))) lo hi [.int .i64 K, .int .i64 (K + 1)] ((K), (K + 1)) b := by rw [hbe]; exact mkOFault (x := ((K), (K + 1))) ⟨by omega, by omega⟩ ⟨by omega, by omega⟩
      have hcell : ∀ j, j < shFault.size → ((C.setIfInBounds (off + i * 2) (.int .i64 K)).setIfInBounds (off + i * 2 + 1) (.int .i64 (K + 1)))[off + (i * shFault.size + j)]? = [.int .i64 K, .int .i64 (K + 1)][j]? := by
        intro j hj
        have hj' : j < 2 := hj
        by_cases hj0 : j = 0
        · subst hj0
          show ((C.setIfInBounds (off + i * 2) (.int .i64 K)).setIfInBounds (off + i * 2 + 1) (.int .i64 (K + 1)))[off + (i * 2 + 0)]? = some _
          rw [show off + (i * 2 + 0) = off + i * 2 by omega]
          rw [set_ne (by omega)]; exact set_same rfl e0
        by_cases hj1 : j = 1
        · subst hj1
          show ((C.setIfInBounds (off + i * 2) (.int .i64 K)).setIfInBounds (off + i * 2 + 1) (.int .i64 (K + 1)))[off + (i * 2 + 1)]? = some _
          rw [show off + (i * 2 + 1) = off + i * 2 + 1 by omega]
          exact set_same rfl (by rw [set_ne (by omega)]; exact e1)
        omega
      have hfar : ∀ p, (p < off + i * shFault.size ∨ off + i * shFault.size + shFault.size ≤ p) → ((C.setIfInBounds (off + i * 2) (.int .i64 K)).setIfInBounds (off + i * 2 + 1) (.int .i64 (K + 1)))[p]? = C[p]? := by
        intro p hp
        have hp' : p < off + i * 2 ∨ off + i * 2 + 2 ≤ p := hp
        rw [set_ne (by omega)]; rw [set_ne (by omega)]
      have hS2 := hput _ _ _ _ kb1 hcell hfar hown (fun y hy hyg hyb => re1 y (hS.in_ good_Fault y hy).2 hyg hyb)
      have hpm : (pm mmFault xs k i).set i ((K), (K + 1)) = pm mmFault xs k (i + 1) := by rw [← hxm, HK.out]; exact pm_succ mmFault xs k i hlt
      rw [hpm] at hS2
      clear hpm hxm
      have hcn : ((mmFault).cnt xs[i] : Nat) = 1 + (1) := rfl
      have HK3 : Hid (K + 1 + 1 = k + psum (mmFault).cnt xs (i + 1)) := by unfold Hid; rw [← HK2.out, hcn]; omega
      have hk5 : K + 1 + 1 ≤ 1000000000 := by rw [hcn] at hKb; omega
      clear hcn
      go_roundw
      case rel => exact ⟨i + 1, K + 1 + 1, by omega, rfl, by go_num, HK3, by omega, hk5, hS2, on1⟩
      case measure => simp [intOf]; omega
    · have HE : Hid (K = k + ((mkL mmFault).cnt xs : Nat)) := by unfold Hid; rw [HK.out]; show _ = k + (((xs.map (mmFault).cnt).sum : Nat) : Int); rw [← psum_all (mmFault).cnt xs, show i = xs.length by omega]
      rw [pm_all mmFault xs k i (by omega)] at hS
      go_wp2_with fail
      go_ret
      exact MarkL.mk HE hS hO

set_option maxRecDepth 100000 in
set_option maxHeartbeats 4000000 in
theorem c_heldFaultS (xs : List TFault) (A : Option Addr) (c : Nat) (k : Int) (w : World) (h : SRW shFault w A c xs) (hm : markL mmFault xs k = xs) (hk0 : 0 < k) (hk1 : k + ((mkL mmFault).cnt xs : Nat) ≤ 1000000000) :
    Calls Tryz.prog 33 #[.slice A xs.length c, .int .i64 k] w (HeldP (k + ((mkL mmFault).cnt xs : Nat)) w) := by
  have hlen := h.len_le
  have HM := Lib.hid hm; clear hm
  have hk2 : k + ((xs.map (mmFault).cnt).sum : Nat) ≤ 1000000000 := hk1
  clear hk1
  go_enter Tryz.func33, Tryz.ntmps33
  go_wp2_with fail
  go_loopw [1, 5] (fun a b wr => ∃ (i : Nat) (K : Int), i ≤ xs.length ∧ a = .int .i64 K ∧ b = .int .i64 i ∧ Hid (K = k + psum (mmFault).cnt xs i) ∧ 0 < K ∧ K ≤ 1000000000 ∧ Up w wr) (fun _ b _ => xs.length - (intOf b).toNat)
  case atStart => exact ⟨0, k, Nat.zero_le _, rfl, rfl, by unfold Hid; rw [psum_zero]; simp, hk0, by omega, Up.refl _⟩
  case round =>
    obtain ⟨i, K, hii, rfl, rfl, HK, hK0, hK1, hu⟩ := hrel
    by_cases hlt : i < xs.length
    · have hps := psum_le (mmFault).cnt xs (i + 1)
      rw [psum_succ (mmFault).cnt xs i hlt] at hps
      have hKb : K + ((mmFault).cnt xs[i] : Nat) ≤ 1000000000 := by rw [HK.out]; omega
      have HK2 : Hid (K + ((mmFault).cnt xs[i] : Nat) = k + psum (mmFault).cnt xs (i + 1)) := by unfold Hid; rw [HK.out, psum_succ (mmFault).cnt xs i hlt]; omega
      clear hps
      have hmi : (mmFault).mark xs[i] K = xs[i] := by rw [HK.out]; exact marked_at HM.out hlt
      have hKc : K + ((1 + (1) : Nat) : Int) ≤ 1000000000 := hKb
      have v0 : (K) = xs[i].1 := congrArg (fun q : TFault => q.1) hmi
      have v1 : (K + 1) = xs[i].2 := congrArg (fun q : TFault => q.2) hmi
      clear hmi
      obtain ⟨g, off, rfl, _, _, hc0, hc1, b0, b1, _⟩ := atFault (h.up good_Fault hu) hlt
      rw [← v0] at hc0
      clear v0
      rw [← v1] at hc1
      clear v1
      go_wp2_with fail
      have hcn : ((mmFault).cnt xs[i] : Nat) = 1 + (1) := rfl
      have HK3 : Hid (K + 1 + 1 = k + psum (mmFault).cnt xs (i + 1)) := by unfold Hid; rw [← HK2.out, hcn]; omega
      have hk5 : K + 1 + 1 ≤ 1000000000 := by rw [hcn] at hKb; omega
      clear hcn
      go_roundw
      case rel => exact ⟨i + 1, K + 1 + 1, by omega, rfl, by go_num, HK3, by omega, hk5, hu⟩
      case measure => simp [intOf]; omega
    · have HE : Hid (K = k + ((mkL mmFault).cnt xs : Nat)) := by unfold Hid; rw [HK.out]; show _ = k + (((xs.map (mmFault).cnt).sum : Nat) : Int); rw [← psum_all (mmFault).cnt xs, show i = xs.length by omega]
      go_wp2_with fail
      go_ret
      exact HeldP.mk HE hu

end Go.Proofs.YtpjcgglhlmifdaaGreatDoor
