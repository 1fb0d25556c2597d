/-
  Contracts of the laws' mark and held helpers.
-/
import Derived.Test.YtanjmolgpkffoaaGreatDoorRows
import Derived.Test.YtanjmolgpkffoaaGreatDoorM2E
import Derived.Test.YtanjmolgpkffoaaGreatDoorM2A
import Derived.Test.YtanjmolgpkffoaaGreatDoorM2J
import Derived.StillTailTactics
import Derived.Lib.SlBytesRow
namespace Go.Proofs.YtanjmolgpkffoaaGreatDoor
open Go.RowKit
set_option linter.unusedVariables false
set_option linter.unusedSimpArgs false

theorem run_one (n : Nat) (hn : n < 256) (W : World) : (convert 148 9 (.slice (some ⟨W.heap.size, 0, none⟩) 1 1)).run Tryz.prog (W.alloc (.cells #[.int .u8 (n : Int)] 5)) = .ok (.string ⟨#[UInt8.ofNat n]⟩) (W.alloc (.cells #[.int .u8 (n : Int)] 5)) := by
  have h := Lib.run_convert_whole (P := Tryz.prog) (W.alloc (.cells #[.int .u8 (n : Int)] 5)) 148 5 9 Tryz.underlying148 Tryz.underlying5 Tryz.underlying9 W.heap.size 0 ⟨#[UInt8.ofNat n]⟩ (fun i hi => ?_) 1
  · exact h
  · obtain rfl : i = 0 := by have : i < 1 := hi; omega
    rw [(Bk.new W 5 #[.int .u8 (n : Int)]).cell]
    have e : (UInt8.ofNat n).toNat = n := by rw [UInt8.toNat_ofNat']; omega
    show some (Value.int .u8 (n : Int)) = some (.int .u8 (((UInt8.ofNat n).toNat : Nat) : Int))
    rw [e]
set_option maxRecDepth 100000 in
set_option maxHeartbeats 1000000 in
theorem c_markText (k : Int) (w : World) (h0 : 0 < k) (h1 : k ≤ 1000000000) : Calls Tryz.prog 80 #[.int .i64 k] w (RetV (.string (mtext k)) w) := by
  have hk : Hid (mtext k = ⟨#[109]⟩ ++ dg k.toNat k.toNat ⟨#[]⟩) := rfl
  go_enter Tryz.func80, Tryz.ntmps80
  go_wp2_with fail
  go_loopw [0, 3] (fun a b wr => ∃ (m f : Nat) (out : ByteArray), a = .int .i64 m ∧ b = .string out ∧ m ≤ f ∧ (m : Int) ≤ k ∧ out.size + m ≤ 1000000000 ∧ Hid (dg f m out = dg k.toNat k.toNat ⟨#[]⟩) ∧ Up w wr) (fun a _ _ => (intOf a).toNat)
  case atStart => exact ⟨k.toNat, k.toNat, ⟨#[]⟩, by go_num, rfl, Nat.le_refl _, by omega, by show 0 + k.toNat ≤ _; omega, rfl, Up.refl _⟩
  case round =>
    obtain ⟨m, f, out, rfl, rfl, hf, hmk, hsz, HD, hu⟩ := hrel
    by_cases hm : (0 : Int) < m
    · obtain ⟨f, rfl⟩ : ∃ f', f = f' + 1 := ⟨f - 1, by omega⟩
      have HN : Hid (dg f (m / 10) (⟨#[UInt8.ofNat (48 + m % 10)]⟩ ++ out) = dg k.toNat k.toNat ⟨#[]⟩) := by
        have h := HD.out
        unfold Hid
        rw [← h]
        conv => rhs; unfold dg
        rw [if_neg (by omega)]
      have hcv := fun W : World => run_one (48 + m % 10) (by omega) W
      have ec : ((48 + m % 10 : Nat) : Int) = 48 + (m : Int) % 10 := by omega
      simp only [ec] at hcv
      clear ec
      have h1s : (ByteArray.mk #[UInt8.ofNat (48 + m % 10)]).size = 1 := rfl
      generalize ByteArray.mk #[UInt8.ofNat (48 + m % 10)] = dgt at *
      go_wp2_with fail
      go_roundw
      case rel => exact ⟨m / 10, f, dgt ++ out, by go_num, rfl, by omega, by omega, by rw [ByteArray.size_append]; omega, HN, hu.alloc _⟩
      case measure => simp [intOf]; omega
    · obtain rfl : m = 0 := by omega
      have HO : Hid (mtext k = ⟨#[109]⟩ ++ out) := by unfold Hid; rw [hk.out, ← HD.out, dg_zero]
      go_wp2_with fail
      go_ret
      exact ret_str HO hu

def mmNode : Mk TNode := (mkP mkS (mkP (mkL mkS) mkS))
theorem gm_Node : GoodM mmNode := (gm_P gm_S (gm_P (gm_L gm_S) gm_S))
def mmTTree : Mk TTree := (mkL mmNode)
theorem gmT_Tree : GoodM mmTTree := (gm_L gm_Node)
def mmImage : Mk TImage := (mkP mkS (mkP (mkL mkS) (mkP mkB (mkP mkS (mkP mkB mkS)))))
set_option maxRecDepth 100000 in
set_option maxHeartbeats 4000000 in
theorem c_markStringS (xs : List ByteArray) (A : Option Addr) (c : Nat) (k : Int) (lo hi : Nat) (bl : List Nat) (w : World) (h : SO shS w lo hi A c xs bl) (hhi : hi ≤ w.heap.size) (hnd : bl.Nodup) (hk0 : 0 < k) (hk1 : k + ((mkL mkS).cnt xs : Nat) ≤ 1000000000) :
    Calls Tryz.prog 37 #[.slice A xs.length c, .int .i64 k] w (MarkL shS mkS lo hi A c xs k bl w) := by
  have hlen : xs.length ≤ 9223372036854775807 := (h.rep good_S).len_le
  have hk2 : k + ((xs.map (mkS).cnt).sum : Nat) ≤ 1000000000 := hk1
  clear hk1
  go_enter Tryz.func37, Tryz.ntmps37
  go_wp2_with fail
  go_loopw [1, 5] (fun a b wr => ∃ (i : Nat) (K : Int), i ≤ xs.length ∧ a = .int .i64 K ∧ b = .int .i64 i ∧ Hid (K = k + psum (mkS).cnt xs i) ∧ 0 < K ∧ K ≤ 1000000000 ∧ SO shS wr lo hi A c (pm mkS xs k i) bl ∧ Only bl w wr) (fun _ b _ => xs.length - (intOf b).toNat)
  case atStart => exact ⟨0, k, Nat.zero_le _, rfl, rfl, by unfold Hid; rw [psum_zero]; simp, hk0, by omega, by rw [pm_zero]; exact h, Only.refl _ _⟩
  case round =>
    obtain ⟨i, K, hii, rfl, rfl, HK, hK0, hK1, hS, hO⟩ := hrel
    by_cases hlt : i < xs.length
    · have hps := psum_le (mkS).cnt xs (i + 1)
      rw [psum_succ (mkS).cnt xs i hlt] at hps
      have hKb : K + ((mkS).cnt xs[i] : Nat) ≤ 1000000000 := by rw [HK.out]; omega
      have HK2 : Hid (K + ((mkS).cnt xs[i] : Nat) = k + psum (mkS).cnt xs (i + 1)) := by unfold Hid; rw [HK.out, psum_succ (mkS).cnt xs i hlt]; omega
      have hhi2 : hi ≤ wr.heap.size := Nat.le_trans hhi hO.size
      obtain ⟨g, off, C, tid, b, cs, rfl, hg1, hg2, hbk, hcl, hcells, ho, hgm, hgb, hbn, hbm, hput⟩ := hS.focus good_S hnd (pm_at mkS xs k i hlt)
      clear hcl hps
      have hKc : K + ((1 : Nat) : Int) ≤ 1000000000 := hKb
      obtain ⟨⟨rfl, f0⟩, hbe⟩ := ho
      have e0 : C[off + i]? = some (.string xs[i]) := by simpa [shS] using hcells 0 (by decide)
      have c0_0 : wr.cell? ⟨g, off + i, none⟩ = some (.string xs[i]) := by rw [hbk.cell]; exact e0
      have z0_0 : wr.frozen? ⟨g, off + i, none⟩ = false := hbk.frozen _
      go_wp2_with fail
      refine (c_markText _ _ (by omega) (by omega)).mono ?_
      rintro e w1 ⟨rfl, u1⟩
      have kb1 := hbk.up u1
      have on1 := hO.up u1
      have sz1 : hi ≤ w1.heap.size := Nat.le_trans hhi on1.size
      have re1 : ∀ y, y < hi → y ≠ g → y ∉ b → w1.heap[y]? = wr.heap[y]? := fun y hy hyg hyb => (u1.block y (Nat.lt_of_lt_of_le hy (Nat.le_trans hhi hO.size)))
      have c1_0 : w1.cell? ⟨g, off + i, none⟩ = some (.string xs[i]) := by rw [kb1.cell]; exact e0
      have z1_0 : w1.frozen? ⟨g, off + i, none⟩ = false := kb1.frozen _
      clear u1
      go_wp2_with fail
      have kb2 : Bk (w1.setCell ⟨g, off + i, none⟩ (.string (mtext K))) g tid (C.setIfInBounds (off + i) (.string (mtext K))) := (kb1.set (off + i) (.string (mtext K)))
      have on2 : Only bl w (w1.setCell ⟨g, off + i, none⟩ (.string (mtext K))) := (on1.but (But.set _ g (off + i) (.string (mtext K))) hgm)
      have bu2 : But g w1 (w1.setCell ⟨g, off + i, none⟩ (.string (mtext K))) := But.set _ g (off + i) (.string (mtext K))
      have re2 : ∀ y, y < hi → y ≠ g → y ∉ b → (w1.setCell ⟨g, off + i, none⟩ (.string (mtext K))).heap[y]? = wr.heap[y]? := fun y hy hyg hyb => (bu2.block y hyg).trans (re1 y hy hyg hyb)
      have hxm : (mkS).mark xs[i] K = (mtext (K)) := rfl
      have hown : shS.own (w1.setCell ⟨g, off + i, none⟩ (.string (mtext K))) lo hi [.string (mtext K)] (mtext (K)) b := ⟨⟨rfl, (mtext_le (by omega))⟩, hbe⟩
      have hcell : ∀ j, j < shS.size → (C.setIfInBounds (off + i) (.string (mtext K)))[off + (i * shS.size + j)]? = [.string (mtext K)][j]? := by
        intro j hj
        obtain rfl : j = 0 := by have : j < 1 := hj; omega
        show (C.setIfInBounds (off + i) (.string (mtext K)))[off + (i * 1 + 0)]? = some _
        exact set_same (by omega) e0
      have hfar : ∀ p, (p < off + i * shS.size ∨ off + i * shS.size + shS.size ≤ p) → (C.setIfInBounds (off + i) (.string (mtext K)))[p]? = C[p]? := by
        intro p hp
        have hp' : p < off + i * 1 ∨ off + i * 1 + 1 ≤ p := hp
        rw [set_ne (by omega)]
      have hS2 := hput _ _ _ _ kb2 hcell hfar hown (fun y hy hyg hyb => re2 y (hS.in_ good_S y hy).2 hyg hyb)
      have hpm : (pm mkS xs k i).set i (mtext (K)) = pm mkS xs k (i + 1) := by rw [← hxm, HK.out]; exact pm_succ mkS xs k i hlt
      rw [hpm] at hS2
      clear hpm hxm
      have hcn : ((mkS).cnt xs[i] : Nat) = 1 := rfl
      have HK3 : Hid (K + 1 = k + psum (mkS).cnt xs (i + 1)) := by unfold Hid; rw [← HK2.out, hcn]; omega
      have hk5 : K + 1 ≤ 1000000000 := by rw [hcn] at hKb; omega
      clear hcn
      go_roundw
      case rel => exact ⟨i + 1, K + 1, by omega, rfl, by go_num, HK3, by omega, hk5, hS2, on2⟩
      case measure => simp [intOf]; omega
    · have HE : Hid (K = k + ((mkL mkS).cnt xs : Nat)) := by unfold Hid; rw [HK.out]; show _ = k + (((xs.map (mkS).cnt).sum : Nat) : Int); rw [← psum_all (mkS).cnt xs, show i = xs.length by omega]
      rw [pm_all mkS xs k i (by omega)] at hS
      go_wp2_with fail
      go_ret
      exact MarkL.mk HE hS hO

set_option maxRecDepth 100000 in
set_option maxHeartbeats 4000000 in
theorem c_markNodeS (xs : List TNode) (A : Option Addr) (c : Nat) (k : Int) (lo hi : Nat) (bl : List Nat) (w : World) (h : SO shNode w lo hi A c xs bl) (hhi : hi ≤ w.heap.size) (hnd : bl.Nodup) (hk0 : 0 < k) (hk1 : k + ((mkL mmNode).cnt xs : Nat) ≤ 1000000000) :
    Calls Tryz.prog 79 #[.slice A xs.length c, .int .i64 k] w (MarkL shNode mmNode lo hi A c xs k bl w) := by
  have hlen : xs.length ≤ 9223372036854775807 := (h.rep good_Node).len_le
  have hk2 : k + ((xs.map (mmNode).cnt).sum : Nat) ≤ 1000000000 := hk1
  clear hk1
  go_enter Tryz.func79, Tryz.ntmps79
  go_wp2_with fail
  go_loopw [1, 5] (fun a b wr => ∃ (i : Nat) (K : Int), i ≤ xs.length ∧ a = .int .i64 K ∧ b = .int .i64 i ∧ Hid (K = k + psum (mmNode).cnt xs i) ∧ 0 < K ∧ K ≤ 1000000000 ∧ SO shNode wr lo hi A c (pm mmNode xs k i) bl ∧ Only bl w wr) (fun _ b _ => xs.length - (intOf b).toNat)
  case atStart => exact ⟨0, k, Nat.zero_le _, rfl, rfl, by unfold Hid; rw [psum_zero]; simp, hk0, by omega, by rw [pm_zero]; exact h, Only.refl _ _⟩
  case round =>
    obtain ⟨i, K, hii, rfl, rfl, HK, hK0, hK1, hS, hO⟩ := hrel
    by_cases hlt : i < xs.length
    · have hps := psum_le (mmNode).cnt xs (i + 1)
      rw [psum_succ (mmNode).cnt xs i hlt] at hps
      have hKb : K + ((mmNode).cnt xs[i] : Nat) ≤ 1000000000 := by rw [HK.out]; omega
      have HK2 : Hid (K + ((mmNode).cnt xs[i] : Nat) = k + psum (mmNode).cnt xs (i + 1)) := by unfold Hid; rw [HK.out, psum_succ (mmNode).cnt xs i hlt]; omega
      have hhi2 : hi ≤ wr.heap.size := Nat.le_trans hhi hO.size
      obtain ⟨g, off, C, tid, b, cs, rfl, hg1, hg2, hbk, hcl, hcells, ho, hgm, hgb, hbn, hbm, hput⟩ := hS.focus good_Node hnd (pm_at mmNode xs k i hlt)
      clear hcl hps
      have hKc : K + ((1 + ((mkL mkS).cnt xs[i].2.1 + (1)) : Nat) : Int) ≤ 1000000000 := hKb
      obtain ⟨D1, d1, bl1, rfl, hbe, f0, f1, f2⟩ := openONode ho
      have e0 : C[off + i * 3]? = some (.string xs[i].1) := hcells 0 (by decide)
      have e1 : C[off + i * 3 + 1]? = some (.slice D1 xs[i].2.1.length d1) := hcells 1 (by decide)
      have e2 : C[off + i * 3 + 2]? = some (.string xs[i].2.2) := hcells 2 (by decide)
      have hb1 : ∀ y ∈ bl1, y ∈ b := by rw [hbe]; intro y hy; simp [hy]
      have hng1 : g ∉ bl1 := fun hm => hgb (hb1 g hm)
      rw [hbe] at hbn
      have c0_0 : wr.cell? ⟨g, off + i * 3, none⟩ = some (.string xs[i].1) := by rw [hbk.cell]; exact e0
      have z0_0 : wr.frozen? ⟨g, off + i * 3, none⟩ = false := hbk.frozen _
      have c0_1 : wr.cell? ⟨g, off + i * 3 + 1, none⟩ = some (.slice D1 xs[i].2.1.length d1) := by rw [hbk.cell]; exact e1
      have z0_1 : wr.frozen? ⟨g, off + i * 3 + 1, none⟩ = false := hbk.frozen _
      have c0_2 : wr.cell? ⟨g, off + i * 3 + 2, none⟩ = some (.string xs[i].2.2) := by rw [hbk.cell]; exact e2
      have z0_2 : wr.frozen? ⟨g, off + i * 3 + 2, none⟩ = false := hbk.frozen _
      go_wp2_with fail
      refine (c_markText _ _ (by omega) (by omega)).mono ?_
      rintro e w1 ⟨rfl, u1⟩
      have kb1 := hbk.up u1
      have on1 := hO.up u1
      have sz1 : hi ≤ w1.heap.size := Nat.le_trans hhi on1.size
      have s1_1 := f1.keep good_S (fun y hy => u1.block y (Nat.lt_of_lt_of_le (f1.in_ good_S y hy).2 (Nat.le_trans hhi hO.size)))
      have re1 : ∀ y, y < hi → y ≠ g → y ∉ b → w1.heap[y]? = wr.heap[y]? := fun y hy hyg hyb => (u1.block y (Nat.lt_of_lt_of_le hy (Nat.le_trans hhi hO.size)))
      have c1_0 : w1.cell? ⟨g, off + i * 3, none⟩ = some (.string xs[i].1) := by rw [kb1.cell]; exact e0
      have z1_0 : w1.frozen? ⟨g, off + i * 3, none⟩ = false := kb1.frozen _
      have c1_1 : w1.cell? ⟨g, off + i * 3 + 1, none⟩ = some (.slice D1 xs[i].2.1.length d1) := by rw [kb1.cell]; exact e1
      have z1_1 : w1.frozen? ⟨g, off + i * 3 + 1, none⟩ = false := kb1.frozen _
      have c1_2 : w1.cell? ⟨g, off + i * 3 + 2, none⟩ = some (.string xs[i].2.2) := by rw [kb1.cell]; exact e2
      have z1_2 : w1.frozen? ⟨g, off + i * 3 + 2, none⟩ = false := kb1.frozen _
      clear u1
      go_wp2_with fail
      have kb2 : Bk (w1.setCell ⟨g, off + i * 3, none⟩ (.string (mtext K))) g tid (C.setIfInBounds (off + i * 3) (.string (mtext K))) := (kb1.set (off + i * 3) (.string (mtext K)))
      have on2 : Only bl w (w1.setCell ⟨g, off + i * 3, none⟩ (.string (mtext K))) := (on1.but (But.set _ g (off + i * 3) (.string (mtext K))) hgm)
      have bu2 : But g w1 (w1.setCell ⟨g, off + i * 3, none⟩ (.string (mtext K))) := But.set _ g (off + i * 3) (.string (mtext K))
      have s2_1 := s1_1.keep good_S (fun y hy => bu2.block y (fun e => hng1 (e ▸ hy)))
      have re2 : ∀ y, y < hi → y ≠ g → y ∉ b → (w1.setCell ⟨g, off + i * 3, none⟩ (.string (mtext K))).heap[y]? = wr.heap[y]? := fun y hy hyg hyb => (bu2.block y hyg).trans (re1 y hy hyg hyb)
      have hc_1 : K + ((mmNode).cnt xs[i] : Nat) ≤ 1000000000 := hKb
      have hsum1 : ((mmNode).cnt xs[i] : Nat) = 1 + ((mkL mkS).cnt xs[i].2.1 + (1)) := rfl
      have HN1 : (bl1).Nodup := by grind [List.nodup_append]
      refine (c_markStringS _ _ _ _ lo hi bl1 _ s2_1 (Nat.le_trans hhi on2.size) HN1 (by omega) (by rw [hsum1] at hc_1; omega)).mono ?_
      clear hc_1 hsum1
      rintro e w3 ⟨rfl, t3, o3⟩
      have kb3 := kb2.only o3 hng1
      have on3 := on2.trans (o3.mono (fun y hy => hbm y (hb1 y hy)))
      have re3 : ∀ y, y < hi → y ≠ g → y ∉ b → w3.heap[y]? = wr.heap[y]? := fun y hy hyg hyb => (o3.block y (Nat.lt_of_lt_of_le hy (Nat.le_trans hhi on2.size)) (fun hm => hyb (hb1 y hm))).trans (re2 y hy hyg hyb)
      have c3_0 : w3.cell? ⟨g, off + i * 3, none⟩ = some (.string (mtext K)) := by rw [kb3.cell]; exact set_same rfl e0
      have z3_0 : w3.frozen? ⟨g, off + i * 3, none⟩ = false := kb3.frozen _
      have c3_1 : w3.cell? ⟨g, off + i * 3 + 1, none⟩ = some (.slice D1 xs[i].2.1.length d1) := by rw [kb3.cell]; rw [set_ne (by omega)]; exact e1
      have z3_1 : w3.frozen? ⟨g, off + i * 3 + 1, none⟩ = false := kb3.frozen _
      have c3_2 : w3.cell? ⟨g, off + i * 3 + 2, none⟩ = some (.string xs[i].2.2) := by rw [kb3.cell]; rw [set_ne (by omega)]; exact e2
      have z3_2 : w3.frozen? ⟨g, off + i * 3 + 2, none⟩ = false := kb3.frozen _
      clear o3
      go_wp2_with fail
      refine (c_markText _ _ (by omega) (by omega)).mono ?_
      rintro e w4 ⟨rfl, u4⟩
      have kb4 := kb3.up u4
      have on4 := on3.up u4
      have sz4 : hi ≤ w4.heap.size := Nat.le_trans hhi on4.size
      have s4_1 := t3.keep good_S (fun y hy => u4.block y (Nat.lt_of_lt_of_le (t3.in_ good_S y hy).2 (Nat.le_trans hhi on3.size)))
      have re4 : ∀ y, y < hi → y ≠ g → y ∉ b → w4.heap[y]? = wr.heap[y]? := fun y hy hyg hyb => (u4.block y (Nat.lt_of_lt_of_le hy (Nat.le_trans hhi on3.size))).trans (re3 y hy hyg hyb)
      have c4_0 : w4.cell? ⟨g, off + i * 3, none⟩ = some (.string (mtext K)) := by rw [kb4.cell]; exact set_same rfl e0
      have z4_0 : w4.frozen? ⟨g, off + i * 3, none⟩ = false := kb4.frozen _
      have c4_1 : w4.cell? ⟨g, off + i * 3 + 1, none⟩ = some (.slice D1 xs[i].2.1.length d1) := by rw [kb4.cell]; rw [set_ne (by omega)]; exact e1
      have z4_1 : w4.frozen? ⟨g, off + i * 3 + 1, none⟩ = false := kb4.frozen _
      have c4_2 : w4.cell? ⟨g, off + i * 3 + 2, none⟩ = some (.string xs[i].2.2) := by rw [kb4.cell]; rw [set_ne (by omega)]; exact e2
      have z4_2 : w4.frozen? ⟨g, off + i * 3 + 2, none⟩ = false := kb4.frozen _
      clear u4
      go_wp2_with fail
      have kb5 : Bk (w4.setCell ⟨g, off + i * 3 + 2, none⟩ (.string (mtext (K + 1 + ((mkL mkS).cnt xs[i].2.1 : Nat))))) g tid ((C.setIfInBounds (off + i * 3) (.string (mtext K))).setIfInBounds (off + i * 3 + 2) (.string (mtext (K + 1 + ((mkL mkS).cnt xs[i].2.1 : Nat))))) := (kb4.set (off + i * 3 + 2) (.string (mtext (K + 1 + ((mkL mkS).cnt xs[i].2.1 : Nat)))))
      have on5 : Only bl w (w4.setCell ⟨g, off + i * 3 + 2, none⟩ (.string (mtext (K + 1 + ((mkL mkS).cnt xs[i].2.1 : Nat))))) := (on4.but (But.set _ g (off + i * 3 + 2) (.string (mtext (K + 1 + ((mkL mkS).cnt xs[i].2.1 : Nat))))) hgm)
      have bu5 : But g w4 (w4.setCell ⟨g, off + i * 3 + 2, none⟩ (.string (mtext (K + 1 + ((mkL mkS).cnt xs[i].2.1 : Nat))))) := But.set _ g (off + i * 3 + 2) (.string (mtext (K + 1 + ((mkL mkS).cnt xs[i].2.1 : Nat))))
      have s5_1 := s4_1.keep good_S (fun y hy => bu5.block y (fun e => hng1 (e ▸ hy)))
      have re5 : ∀ y, y < hi → y ≠ g → y ∉ b → (w4.setCell ⟨g, off + i * 3 + 2, none⟩ (.string (mtext (K + 1 + ((mkL mkS).cnt xs[i].2.1 : Nat))))).heap[y]? = wr.heap[y]? := fun y hy hyg hyb => (bu5.block y hyg).trans (re4 y hy hyg hyb)
      have hxm : (mmNode).mark xs[i] K = ((mtext (K)), (markL mkS xs[i].2.1 (K + 1)), (mtext (K + 1 + ((mkL mkS).cnt xs[i].2.1 : Nat)))) := rfl
      have hown : shNode.own (w4.setCell ⟨g, off + i * 3 + 2, none⟩ (.string (mtext (K + 1 + ((mkL mkS).cnt xs[i].2.1 : Nat))))) lo hi [.string (mtext K), .slice D1 (markL mkS xs[i].2.1 (K + 1)).length d1, .string (mtext (K + 1 + ((mkL mkS).cnt xs[i].2.1 : Nat)))] ((mtext (K)), (markL mkS xs[i].2.1 (K + 1)), (mtext (K + 1 + ((mkL mkS).cnt xs[i].2.1 : Nat)))) b := by rw [hbe]; exact mkONode (x := ((mtext (K)), (markL mkS xs[i].2.1 (K + 1)), (mtext (K + 1 + ((mkL mkS).cnt xs[i].2.1 : Nat))))) (mtext_le (by omega)) s5_1 (mtext_le (by omega))
      have hcell : ∀ j, j < shNode.size → ((C.setIfInBounds (off + i * 3) (.string (mtext K))).setIfInBounds (off + i * 3 + 2) (.string (mtext (K + 1 + ((mkL mkS).cnt xs[i].2.1 : Nat)))))[off + (i * shNode.size + j)]? = [.string (mtext K), .slice D1 (markL mkS xs[i].2.1 (K + 1)).length d1, .string (mtext (K + 1 + ((mkL mkS).cnt xs[i].2.1 : Nat)))][j]? := by
        intro j hj
        have hj' : j < 3 := hj
        by_cases hj0 : j = 0
        · subst hj0
          show ((C.setIfInBounds (off + i * 3) (.string (mtext K))).setIfInBounds (off + i * 3 + 2) (.string (mtext (K + 1 + ((mkL mkS).cnt xs[i].2.1 : Nat)))))[off + (i * 3 + 0)]? = some _
          rw [show off + (i * 3 + 0) = off + i * 3 by omega]
          rw [set_ne (by omega)]; exact set_same rfl e0
        by_cases hj1 : j = 1
        · subst hj1
          show ((C.setIfInBounds (off + i * 3) (.string (mtext K))).setIfInBounds (off + i * 3 + 2) (.string (mtext (K + 1 + ((mkL mkS).cnt xs[i].2.1 : Nat)))))[off + (i * 3 + 1)]? = some _
          rw [show off + (i * 3 + 1) = off + i * 3 + 1 by omega]
          rw [markL_len]
          rw [set_ne (by omega)]; rw [set_ne (by omega)]; exact e1
        by_cases hj2 : j = 2
        · subst hj2
          show ((C.setIfInBounds (off + i * 3) (.string (mtext K))).setIfInBounds (off + i * 3 + 2) (.string (mtext (K + 1 + ((mkL mkS).cnt xs[i].2.1 : Nat)))))[off + (i * 3 + 2)]? = some _
          rw [show off + (i * 3 + 2) = off + i * 3 + 2 by omega]
          exact set_same rfl (by rw [set_ne (by omega)]; exact e2)
        omega
      have hfar : ∀ p, (p < off + i * shNode.size ∨ off + i * shNode.size + shNode.size ≤ p) → ((C.setIfInBounds (off + i * 3) (.string (mtext K))).setIfInBounds (off + i * 3 + 2) (.string (mtext (K + 1 + ((mkL mkS).cnt xs[i].2.1 : Nat)))))[p]? = C[p]? := by
        intro p hp
        have hp' : p < off + i * 3 ∨ off + i * 3 + 3 ≤ p := hp
        rw [set_ne (by omega)]; rw [set_ne (by omega)]
      have hS2 := hput _ _ _ _ kb5 hcell hfar hown (fun y hy hyg hyb => re5 y (hS.in_ good_Node y hy).2 hyg hyb)
      have hpm : (pm mmNode xs k i).set i ((mtext (K)), (markL mkS xs[i].2.1 (K + 1)), (mtext (K + 1 + ((mkL mkS).cnt xs[i].2.1 : Nat)))) = pm mmNode xs k (i + 1) := by rw [← hxm, HK.out]; exact pm_succ mmNode xs k i hlt
      rw [hpm] at hS2
      clear hpm hxm
      have hcn : ((mmNode).cnt xs[i] : Nat) = 1 + ((mkL mkS).cnt xs[i].2.1 + (1)) := rfl
      have HK3 : Hid (K + 1 + ((mkL mkS).cnt xs[i].2.1 : Nat) + 1 = k + psum (mmNode).cnt xs (i + 1)) := by unfold Hid; rw [← HK2.out, hcn]; omega
      have hk5 : K + 1 + ((mkL mkS).cnt xs[i].2.1 : Nat) + 1 ≤ 1000000000 := by rw [hcn] at hKb; omega
      clear hcn
      go_roundw
      case rel => exact ⟨i + 1, K + 1 + ((mkL mkS).cnt xs[i].2.1 : Nat) + 1, by omega, rfl, by go_num, HK3, by omega, hk5, hS2, on5⟩
      case measure => simp [intOf]; omega
    · have HE : Hid (K = k + ((mkL mmNode).cnt xs : Nat)) := by unfold Hid; rw [HK.out]; show _ = k + (((xs.map (mmNode).cnt).sum : Nat) : Int); rw [← psum_all (mmNode).cnt xs, show i = xs.length by omega]
      rw [pm_all mmNode xs k i (by omega)] at hS
      go_wp2_with fail
      go_ret
      exact MarkL.mk HE hS hO

set_option maxRecDepth 100000 in
set_option maxHeartbeats 4000000 in
theorem c_markTree (cs : List Value) (x : TTree) (k : Int) (lo hi : Nat) (bl : List Nat) (w : World) (h : shTree.own w lo hi cs x bl) (hhi : hi ≤ w.heap.size) (hnd : bl.Nodup) (hk0 : 0 < k) (hk1 : k + (mmTTree.cnt x : Nat) ≤ 1000000000) :
    Calls Tryz.prog 36 #[.agg cs.toArray, .int .i64 k] w (MarkV shTree mmTTree lo hi cs x k bl w) := by
  obtain ⟨x0, rfl⟩ : ∃ q, q = x := ⟨_, rfl⟩
  have ho := openOTree h
  try dsimp only at ho
  obtain ⟨A0, c0, bl0, rfl, hbe, f0⟩ := ho
  clear h
  have hcn : mmTTree.cnt x0 = (mkL mmNode).cnt x0 := rfl
  rw [hcn] at hk1
  have HC := Lib.hid hcn; clear hcn
  have kb0 : Bk (w.alloc (.cells #[.slice A0 x0.length c0] 32)) w.heap.size 32 #[.slice A0 x0.length c0] := Bk.new _ _ _
  have on0 : Only bl w (w.alloc (.cells #[.slice A0 x0.length c0] 32)) := Only.of_up ((Up.refl _).alloc _)
  have hb0 : ∀ y ∈ bl0, y ∈ bl := by rw [hbe]; intro y hy; simp [hy]
  have hw0 : w.heap.size ∉ bl0 := fun hm => by have := (f0.in_ good_Node _ hm).2; omega
  have s0_0 := f0.keep good_Node (fun y hy => (Up.alloc (Up.refl w) (.cells #[.slice A0 x0.length c0] 32)).block y (Nat.lt_of_lt_of_le (f0.in_ good_Node y hy).2 hhi))
  rw [hbe] at hnd
  go_enter Tryz.func36, Tryz.ntmps36
  go_wp2_with fail
  have HN0 : (bl0).Nodup := by grind [List.nodup_append]
  refine (c_markNodeS _ _ _ _ lo hi bl0 _ s0_0 (Nat.le_trans hhi on0.size) HN0 (by omega) (by omega)).mono ?_
  rintro e w1 ⟨rfl, t1, o1⟩
  have hgo1 : w.heap.size ∉ (bl0) := by exact hw0
  have kb1 := kb0.only o1 hgo1
  have on1 := on0.trans (o1.mono (fun y hy => by exact hb0 y hy))
  clear o1
  go_wp2_with fail
  go_ret
  have HE : Hid (k + ((mkL mmNode).cnt x0 : Nat) = k + (mmTTree.cnt x0 : Nat)) := by unfold Hid; first | (rw [HC.out]; done) | (rw [HC.out]; omega)
  refine MarkV.mk HE ?_ on1
  rw [hbe]
  have hmk : mmTTree.mark x0 k = markL mmNode x0 (k) := by simp [mmTTree, mkP, mk0, mkL]
  rw [hmk]
  have hfin : shTree.own w1 lo hi _ (markL mmNode x0 (k)) _ := (SO.to_own (n := x0.length) (by first | rfl | exact markL_len _ _ _) t1)
  simpa using hfin



set_option maxRecDepth 100000 in
set_option maxHeartbeats 4000000 in
theorem c_markImageS (xs : List TImage) (A : Option Addr) (c : Nat) (k : Int) (lo hi : Nat) (bl : List Nat) (w : World) (h : SO shImage w lo hi A c xs bl) (hhi : hi ≤ w.heap.size) (hnd : bl.Nodup) (hk0 : 0 < k) (hk1 : k + ((mkL mmImage).cnt xs : Nat) ≤ 1000000000) :
    Calls Tryz.prog 41 #[.slice A xs.length c, .int .i64 k] w (MarkL shImage mmImage lo hi A c xs k bl w) := by
  have hlen : xs.length ≤ 9223372036854775807 := (h.rep good_Image).len_le
  have hk2 : k + ((xs.map (mmImage).cnt).sum : Nat) ≤ 1000000000 := hk1
  clear hk1
  go_enter Tryz.func41, Tryz.ntmps41
  go_wp2_with fail
  go_loopw [1, 5] (fun a b wr => ∃ (i : Nat) (K : Int), i ≤ xs.length ∧ a = .int .i64 K ∧ b = .int .i64 i ∧ Hid (K = k + psum (mmImage).cnt xs i) ∧ 0 < K ∧ K ≤ 1000000000 ∧ SO shImage wr lo hi A c (pm mmImage xs k i) bl ∧ Only bl w wr) (fun _ b _ => xs.length - (intOf b).toNat)
  case atStart => exact ⟨0, k, Nat.zero_le _, rfl, rfl, by unfold Hid; rw [psum_zero]; simp, hk0, by omega, by rw [pm_zero]; exact h, Only.refl _ _⟩
  case round =>
    obtain ⟨i, K, hii, rfl, rfl, HK, hK0, hK1, hS, hO⟩ := hrel
    by_cases hlt : i < xs.length
    · have hps := psum_le (mmImage).cnt xs (i + 1)
      rw [psum_succ (mmImage).cnt xs i hlt] at hps
      have hKb : K + ((mmImage).cnt xs[i] : Nat) ≤ 1000000000 := by rw [HK.out]; omega
      have HK2 : Hid (K + ((mmImage).cnt xs[i] : Nat) = k + psum (mmImage).cnt xs (i + 1)) := by unfold Hid; rw [HK.out, psum_succ (mmImage).cnt xs i hlt]; omega
      have hhi2 : hi ≤ wr.heap.size := Nat.le_trans hhi hO.size
      obtain ⟨g, off, C, tid, b, cs, rfl, hg1, hg2, hbk, hcl, hcells, ho, hgm, hgb, hbn, hbm, hput⟩ := hS.focus good_Image hnd (pm_at mmImage xs k i hlt)
      clear hcl hps
      have hKc : K + ((1 + ((mkL mkS).cnt xs[i].2.1 + (1 + (1 + (1 + (1))))) : Nat) : Int) ≤ 1000000000 := hKb
      obtain ⟨D1, d1, bl1, rfl, hbe, f0, f1, f3, f5⟩ := openOImage ho
      have e0 : C[off + i * 6]? = some (.string xs[i].1) := hcells 0 (by decide)
      have e1 : C[off + i * 6 + 1]? = some (.slice D1 xs[i].2.1.length d1) := hcells 1 (by decide)
      have e2 : C[off + i * 6 + 2]? = some (.bool xs[i].2.2.1) := hcells 2 (by decide)
      have e3 : C[off + i * 6 + 3]? = some (.string xs[i].2.2.2.1) := hcells 3 (by decide)
      have e4 : C[off + i * 6 + 4]? = some (.bool xs[i].2.2.2.2.1) := hcells 4 (by decide)
      have e5 : C[off + i * 6 + 5]? = some (.string xs[i].2.2.2.2.2) := hcells 5 (by decide)
      have hb1 : ∀ y ∈ bl1, y ∈ b := by rw [hbe]; intro y hy; simp [hy]
      have hng1 : g ∉ bl1 := fun hm => hgb (hb1 g hm)
      rw [hbe] at hbn
      have c0_0 : wr.cell? ⟨g, off + i * 6, none⟩ = some (.string xs[i].1) := by rw [hbk.cell]; exact e0
      have z0_0 : wr.frozen? ⟨g, off + i * 6, none⟩ = false := hbk.frozen _
      have c0_1 : wr.cell? ⟨g, off + i * 6 + 1, none⟩ = some (.slice D1 xs[i].2.1.length d1) := by rw [hbk.cell]; exact e1
      have z0_1 : wr.frozen? ⟨g, off + i * 6 + 1, none⟩ = false := hbk.frozen _
      have c0_2 : wr.cell? ⟨g, off + i * 6 + 2, none⟩ = some (.bool xs[i].2.2.1) := by rw [hbk.cell]; exact e2
      have z0_2 : wr.frozen? ⟨g, off + i * 6 + 2, none⟩ = false := hbk.frozen _
      have c0_3 : wr.cell? ⟨g, off + i * 6 + 3, none⟩ = some (.string xs[i].2.2.2.1) := by rw [hbk.cell]; exact e3
      have z0_3 : wr.frozen? ⟨g, off + i * 6 + 3, none⟩ = false := hbk.frozen _
      have c0_4 : wr.cell? ⟨g, off + i * 6 + 4, none⟩ = some (.bool xs[i].2.2.2.2.1) := by rw [hbk.cell]; exact e4
      have z0_4 : wr.frozen? ⟨g, off + i * 6 + 4, none⟩ = false := hbk.frozen _
      have c0_5 : wr.cell? ⟨g, off + i * 6 + 5, none⟩ = some (.string xs[i].2.2.2.2.2) := by rw [hbk.cell]; exact e5
      have z0_5 : wr.frozen? ⟨g, off + i * 6 + 5, none⟩ = false := hbk.frozen _
      go_wp2_with fail
      refine (c_markText _ _ (by omega) (by omega)).mono ?_
      rintro e w1 ⟨rfl, u1⟩
      have kb1 := hbk.up u1
      have on1 := hO.up u1
      have sz1 : hi ≤ w1.heap.size := Nat.le_trans hhi on1.size
      have s1_1 := f1.keep good_S (fun y hy => u1.block y (Nat.lt_of_lt_of_le (f1.in_ good_S y hy).2 (Nat.le_trans hhi hO.size)))
      have re1 : ∀ y, y < hi → y ≠ g → y ∉ b → w1.heap[y]? = wr.heap[y]? := fun y hy hyg hyb => (u1.block y (Nat.lt_of_lt_of_le hy (Nat.le_trans hhi hO.size)))
      have c1_0 : w1.cell? ⟨g, off + i * 6, none⟩ = some (.string xs[i].1) := by rw [kb1.cell]; exact e0
      have z1_0 : w1.frozen? ⟨g, off + i * 6, none⟩ = false := kb1.frozen _
      have c1_1 : w1.cell? ⟨g, off + i * 6 + 1, none⟩ = some (.slice D1 xs[i].2.1.length d1) := by rw [kb1.cell]; exact e1
      have z1_1 : w1.frozen? ⟨g, off + i * 6 + 1, none⟩ = false := kb1.frozen _
      have c1_2 : w1.cell? ⟨g, off + i * 6 + 2, none⟩ = some (.bool xs[i].2.2.1) := by rw [kb1.cell]; exact e2
      have z1_2 : w1.frozen? ⟨g, off + i * 6 + 2, none⟩ = false := kb1.frozen _
      have c1_3 : w1.cell? ⟨g, off + i * 6 + 3, none⟩ = some (.string xs[i].2.2.2.1) := by rw [kb1.cell]; exact e3
      have z1_3 : w1.frozen? ⟨g, off + i * 6 + 3, none⟩ = false := kb1.frozen _
      have c1_4 : w1.cell? ⟨g, off + i * 6 + 4, none⟩ = some (.bool xs[i].2.2.2.2.1) := by rw [kb1.cell]; exact e4
      have z1_4 : w1.frozen? ⟨g, off + i * 6 + 4, none⟩ = false := kb1.frozen _
      have c1_5 : w1.cell? ⟨g, off + i * 6 + 5, none⟩ = some (.string xs[i].2.2.2.2.2) := by rw [kb1.cell]; exact e5
      have z1_5 : w1.frozen? ⟨g, off + i * 6 + 5, none⟩ = false := kb1.frozen _
      clear u1
      go_wp2_with fail
      have kb2 : Bk (w1.setCell ⟨g, off + i * 6, none⟩ (.string (mtext K))) g tid (C.setIfInBounds (off + i * 6) (.string (mtext K))) := (kb1.set (off + i * 6) (.string (mtext K)))
      have on2 : Only bl w (w1.setCell ⟨g, off + i * 6, none⟩ (.string (mtext K))) := (on1.but (But.set _ g (off + i * 6) (.string (mtext K))) hgm)
      have bu2 : But g w1 (w1.setCell ⟨g, off + i * 6, none⟩ (.string (mtext K))) := But.set _ g (off + i * 6) (.string (mtext K))
      have s2_1 := s1_1.keep good_S (fun y hy => bu2.block y (fun e => hng1 (e ▸ hy)))
      have re2 : ∀ y, y < hi → y ≠ g → y ∉ b → (w1.setCell ⟨g, off + i * 6, none⟩ (.string (mtext K))).heap[y]? = wr.heap[y]? := fun y hy hyg hyb => (bu2.block y hyg).trans (re1 y hy hyg hyb)
      have hc_1 : K + ((mmImage).cnt xs[i] : Nat) ≤ 1000000000 := hKb
      have hsum1 : ((mmImage).cnt xs[i] : Nat) = 1 + ((mkL mkS).cnt xs[i].2.1 + (1 + (1 + (1 + (1))))) := rfl
      have HN1 : (bl1).Nodup := by grind [List.nodup_append]
      refine (c_markStringS _ _ _ _ lo hi bl1 _ s2_1 (Nat.le_trans hhi on2.size) HN1 (by omega) (by rw [hsum1] at hc_1; omega)).mono ?_
      clear hc_1 hsum1
      rintro e w3 ⟨rfl, t3, o3⟩
      have kb3 := kb2.only o3 hng1
      have on3 := on2.trans (o3.mono (fun y hy => hbm y (hb1 y hy)))
      have re3 : ∀ y, y < hi → y ≠ g → y ∉ b → w3.heap[y]? = wr.heap[y]? := fun y hy hyg hyb => (o3.block y (Nat.lt_of_lt_of_le hy (Nat.le_trans hhi on2.size)) (fun hm => hyb (hb1 y hm))).trans (re2 y hy hyg hyb)
      have c3_0 : w3.cell? ⟨g, off + i * 6, none⟩ = some (.string (mtext K)) := by rw [kb3.cell]; exact set_same rfl e0
      have z3_0 : w3.frozen? ⟨g, off + i * 6, none⟩ = false := kb3.frozen _
      have c3_1 : w3.cell? ⟨g, off + i * 6 + 1, none⟩ = some (.slice D1 xs[i].2.1.length d1) := by rw [kb3.cell]; rw [set_ne (by omega)]; exact e1
      have z3_1 : w3.frozen? ⟨g, off + i * 6 + 1, none⟩ = false := kb3.frozen _
      have c3_2 : w3.cell? ⟨g, off + i * 6 + 2, none⟩ = some (.bool xs[i].2.2.1) := by rw [kb3.cell]; rw [set_ne (by omega)]; exact e2
      have z3_2 : w3.frozen? ⟨g, off + i * 6 + 2, none⟩ = false := kb3.frozen _
      have c3_3 : w3.cell? ⟨g, off + i * 6 + 3, none⟩ = some (.string xs[i].2.2.2.1) := by rw [kb3.cell]; rw [set_ne (by omega)]; exact e3
      have z3_3 : w3.frozen? ⟨g, off + i * 6 + 3, none⟩ = false := kb3.frozen _
      have c3_4 : w3.cell? ⟨g, off + i * 6 + 4, none⟩ = some (.bool xs[i].2.2.2.2.1) := by rw [kb3.cell]; rw [set_ne (by omega)]; exact e4
      have z3_4 : w3.frozen? ⟨g, off + i * 6 + 4, none⟩ = false := kb3.frozen _
      have c3_5 : w3.cell? ⟨g, off + i * 6 + 5, none⟩ = some (.string xs[i].2.2.2.2.2) := by rw [kb3.cell]; rw [set_ne (by omega)]; exact e5
      have z3_5 : w3.frozen? ⟨g, off + i * 6 + 5, none⟩ = false := kb3.frozen _
      clear o3
      go_wp2_with fail
      have kb4 : Bk (w3.setCell ⟨g, off + i * 6 + 2, none⟩ (.bool ((K + 1 + ((mkL mkS).cnt xs[i].2.1 : Nat)) % 3 == 0))) g tid ((C.setIfInBounds (off + i * 6) (.string (mtext K))).setIfInBounds (off + i * 6 + 2) (.bool ((K + 1 + ((mkL mkS).cnt xs[i].2.1 : Nat)) % 3 == 0))) := (kb3.set (off + i * 6 + 2) (.bool ((K + 1 + ((mkL mkS).cnt xs[i].2.1 : Nat)) % 3 == 0)))
      have on4 : Only bl w (w3.setCell ⟨g, off + i * 6 + 2, none⟩ (.bool ((K + 1 + ((mkL mkS).cnt xs[i].2.1 : Nat)) % 3 == 0))) := (on3.but (But.set _ g (off + i * 6 + 2) (.bool ((K + 1 + ((mkL mkS).cnt xs[i].2.1 : Nat)) % 3 == 0))) hgm)
      have bu4 : But g w3 (w3.setCell ⟨g, off + i * 6 + 2, none⟩ (.bool ((K + 1 + ((mkL mkS).cnt xs[i].2.1 : Nat)) % 3 == 0))) := But.set _ g (off + i * 6 + 2) (.bool ((K + 1 + ((mkL mkS).cnt xs[i].2.1 : Nat)) % 3 == 0))
      have s4_1 := t3.keep good_S (fun y hy => bu4.block y (fun e => hng1 (e ▸ hy)))
      have re4 : ∀ y, y < hi → y ≠ g → y ∉ b → (w3.setCell ⟨g, off + i * 6 + 2, none⟩ (.bool ((K + 1 + ((mkL mkS).cnt xs[i].2.1 : Nat)) % 3 == 0))).heap[y]? = wr.heap[y]? := fun y hy hyg hyb => (bu4.block y hyg).trans (re3 y hy hyg hyb)
      refine (c_markText _ _ (by omega) (by omega)).mono ?_
      rintro e w5 ⟨rfl, u5⟩
      have kb5 := kb4.up u5
      have on5 := on4.up u5
      have sz5 : hi ≤ w5.heap.size := Nat.le_trans hhi on5.size
      have s5_1 := s4_1.keep good_S (fun y hy => u5.block y (Nat.lt_of_lt_of_le (s4_1.in_ good_S y hy).2 (Nat.le_trans hhi on4.size)))
      have re5 : ∀ y, y < hi → y ≠ g → y ∉ b → w5.heap[y]? = wr.heap[y]? := fun y hy hyg hyb => (u5.block y (Nat.lt_of_lt_of_le hy (Nat.le_trans hhi on4.size))).trans (re4 y hy hyg hyb)
      have c5_0 : w5.cell? ⟨g, off + i * 6, none⟩ = some (.string (mtext K)) := by rw [kb5.cell]; rw [set_ne (by omega)]; exact set_same rfl e0
      have z5_0 : w5.frozen? ⟨g, off + i * 6, none⟩ = false := kb5.frozen _
      have c5_1 : w5.cell? ⟨g, off + i * 6 + 1, none⟩ = some (.slice D1 xs[i].2.1.length d1) := by rw [kb5.cell]; rw [set_ne (by omega)]; rw [set_ne (by omega)]; exact e1
      have z5_1 : w5.frozen? ⟨g, off + i * 6 + 1, none⟩ = false := kb5.frozen _
      have c5_2 : w5.cell? ⟨g, off + i * 6 + 2, none⟩ = some (.bool ((K + 1 + ((mkL mkS).cnt xs[i].2.1 : Nat)) % 3 == 0)) := by rw [kb5.cell]; exact set_same rfl (by rw [set_ne (by omega)]; exact e2)
      have z5_2 : w5.frozen? ⟨g, off + i * 6 + 2, none⟩ = false := kb5.frozen _
      have c5_3 : w5.cell? ⟨g, off + i * 6 + 3, none⟩ = some (.string xs[i].2.2.2.1) := by rw [kb5.cell]; rw [set_ne (by omega)]; rw [set_ne (by omega)]; exact e3
      have z5_3 : w5.frozen? ⟨g, off + i * 6 + 3, none⟩ = false := kb5.frozen _
      have c5_4 : w5.cell? ⟨g, off + i * 6 + 4, none⟩ = some (.bool xs[i].2.2.2.2.1) := by rw [kb5.cell]; rw [set_ne (by omega)]; rw [set_ne (by omega)]; exact e4
      have z5_4 : w5.frozen? ⟨g, off + i * 6 + 4, none⟩ = false := kb5.frozen _
      have c5_5 : w5.cell? ⟨g, off + i * 6 + 5, none⟩ = some (.string xs[i].2.2.2.2.2) := by rw [kb5.cell]; rw [set_ne (by omega)]; rw [set_ne (by omega)]; exact e5
      have z5_5 : w5.frozen? ⟨g, off + i * 6 + 5, none⟩ = false := kb5.frozen _
      clear u5
      go_wp2_with fail
      have kb6 : Bk ((w5.setCell ⟨g, off + i * 6 + 3, none⟩ (.string (mtext (K + 1 + ((mkL mkS).cnt xs[i].2.1 : Nat) + 1)))).setCell ⟨g, off + i * 6 + 4, none⟩ (.bool ((K + 1 + ((mkL mkS).cnt xs[i].2.1 : Nat) + 1 + 1) % 3 == 0))) g tid ((((C.setIfInBounds (off + i * 6) (.string (mtext K))).setIfInBounds (off + i * 6 + 2) (.bool ((K + 1 + ((mkL mkS).cnt xs[i].2.1 : Nat)) % 3 == 0))).setIfInBounds (off + i * 6 + 3) (.string (mtext (K + 1 + ((mkL mkS).cnt xs[i].2.1 : Nat) + 1)))).setIfInBounds (off + i * 6 + 4) (.bool ((K + 1 + ((mkL mkS).cnt xs[i].2.1 : Nat) + 1 + 1) % 3 == 0))) := ((kb5.set (off + i * 6 + 3) (.string (mtext (K + 1 + ((mkL mkS).cnt xs[i].2.1 : Nat) + 1)))).set (off + i * 6 + 4) (.bool ((K + 1 + ((mkL mkS).cnt xs[i].2.1 : Nat) + 1 + 1) % 3 == 0)))
      have on6 : Only bl w ((w5.setCell ⟨g, off + i * 6 + 3, none⟩ (.string (mtext (K + 1 + ((mkL mkS).cnt xs[i].2.1 : Nat) + 1)))).setCell ⟨g, off + i * 6 + 4, none⟩ (.bool ((K + 1 + ((mkL mkS).cnt xs[i].2.1 : Nat) + 1 + 1) % 3 == 0))) := ((on5.but (But.set _ g (off + i * 6 + 3) (.string (mtext (K + 1 + ((mkL mkS).cnt xs[i].2.1 : Nat) + 1)))) hgm).but (But.set _ g (off + i * 6 + 4) (.bool ((K + 1 + ((mkL mkS).cnt xs[i].2.1 : Nat) + 1 + 1) % 3 == 0))) hgm)
      have bu6 : But g w5 ((w5.setCell ⟨g, off + i * 6 + 3, none⟩ (.string (mtext (K + 1 + ((mkL mkS).cnt xs[i].2.1 : Nat) + 1)))).setCell ⟨g, off + i * 6 + 4, none⟩ (.bool ((K + 1 + ((mkL mkS).cnt xs[i].2.1 : Nat) + 1 + 1) % 3 == 0))) := (But.set _ g (off + i * 6 + 3) (.string (mtext (K + 1 + ((mkL mkS).cnt xs[i].2.1 : Nat) + 1)))).trans (But.set _ g (off + i * 6 + 4) (.bool ((K + 1 + ((mkL mkS).cnt xs[i].2.1 : Nat) + 1 + 1) % 3 == 0)))
      have s6_1 := s5_1.keep good_S (fun y hy => bu6.block y (fun e => hng1 (e ▸ hy)))
      have re6 : ∀ y, y < hi → y ≠ g → y ∉ b → ((w5.setCell ⟨g, off + i * 6 + 3, none⟩ (.string (mtext (K + 1 + ((mkL mkS).cnt xs[i].2.1 : Nat) + 1)))).setCell ⟨g, off + i * 6 + 4, none⟩ (.bool ((K + 1 + ((mkL mkS).cnt xs[i].2.1 : Nat) + 1 + 1) % 3 == 0))).heap[y]? = wr.heap[y]? := fun y hy hyg hyb => (bu6.block y hyg).trans (re5 y hy hyg hyb)
      refine (c_markText _ _ (by omega) (by omega)).mono ?_
      rintro e w7 ⟨rfl, u7⟩
      have kb7 := kb6.up u7
      have on7 := on6.up u7
      have sz7 : hi ≤ w7.heap.size := Nat.le_trans hhi on7.size
      have s7_1 := s6_1.keep good_S (fun y hy => u7.block y (Nat.lt_of_lt_of_le (s6_1.in_ good_S y hy).2 (Nat.le_trans hhi on6.size)))
      have re7 : ∀ y, y < hi → y ≠ g → y ∉ b → w7.heap[y]? = wr.heap[y]? := fun y hy hyg hyb => (u7.block y (Nat.lt_of_lt_of_le hy (Nat.le_trans hhi on6.size))).trans (re6 y hy hyg hyb)
      have c7_0 : w7.cell? ⟨g, off + i * 6, none⟩ = some (.string (mtext K)) := by rw [kb7.cell]; rw [set_ne (by omega)]; rw [set_ne (by omega)]; rw [set_ne (by omega)]; exact set_same rfl e0
      have z7_0 : w7.frozen? ⟨g, off + i * 6, none⟩ = false := kb7.frozen _
      have c7_1 : w7.cell? ⟨g, off + i * 6 + 1, none⟩ = some (.slice D1 xs[i].2.1.length d1) := by rw [kb7.cell]; rw [set_ne (by omega)]; rw [set_ne (by omega)]; rw [set_ne (by omega)]; rw [set_ne (by omega)]; exact e1
      have z7_1 : w7.frozen? ⟨g, off + i * 6 + 1, none⟩ = false := kb7.frozen _
      have c7_2 : w7.cell? ⟨g, off + i * 6 + 2, none⟩ = some (.bool ((K + 1 + ((mkL mkS).cnt xs[i].2.1 : Nat)) % 3 == 0)) := by rw [kb7.cell]; rw [set_ne (by omega)]; rw [set_ne (by omega)]; exact set_same rfl (by rw [set_ne (by omega)]; exact e2)
      have z7_2 : w7.frozen? ⟨g, off + i * 6 + 2, none⟩ = false := kb7.frozen _
      have c7_3 : w7.cell? ⟨g, off + i * 6 + 3, none⟩ = some (.string (mtext (K + 1 + ((mkL mkS).cnt xs[i].2.1 : Nat) + 1))) := by rw [kb7.cell]; rw [set_ne (by omega)]; exact set_same rfl (by rw [set_ne (by omega)]; rw [set_ne (by omega)]; exact e3)
      have z7_3 : w7.frozen? ⟨g, off + i * 6 + 3, none⟩ = false := kb7.frozen _
      have c7_4 : w7.cell? ⟨g, off + i * 6 + 4, none⟩ = some (.bool ((K + 1 + ((mkL mkS).cnt xs[i].2.1 : Nat) + 1 + 1) % 3 == 0)) := by rw [kb7.cell]; exact set_same rfl (by rw [set_ne (by omega)]; rw [set_ne (by omega)]; rw [set_ne (by omega)]; exact e4)
      have z7_4 : w7.frozen? ⟨g, off + i * 6 + 4, none⟩ = false := kb7.frozen _
      have c7_5 : w7.cell? ⟨g, off + i * 6 + 5, none⟩ = some (.string xs[i].2.2.2.2.2) := by rw [kb7.cell]; rw [set_ne (by omega)]; rw [set_ne (by omega)]; rw [set_ne (by omega)]; rw [set_ne (by omega)]; exact e5
      have z7_5 : w7.frozen? ⟨g, off + i * 6 + 5, none⟩ = false := kb7.frozen _
      clear u7
      go_wp2_with fail
      have kb8 : Bk (w7.setCell ⟨g, off + i * 6 + 5, none⟩ (.string (mtext (K + 1 + ((mkL mkS).cnt xs[i].2.1 : Nat) + 1 + 1 + 1)))) g tid (((((C.setIfInBounds (off + i * 6) (.string (mtext K))).setIfInBounds (off + i * 6 + 2) (.bool ((K + 1 + ((mkL mkS).cnt xs[i].2.1 : Nat)) % 3 == 0))).setIfInBounds (off + i * 6 + 3) (.string (mtext (K + 1 + ((mkL mkS).cnt xs[i].2.1 : Nat) + 1)))).setIfInBounds (off + i * 6 + 4) (.bool ((K + 1 + ((mkL mkS).cnt xs[i].2.1 : Nat) + 1 + 1) % 3 == 0))).setIfInBounds (off + i * 6 + 5) (.string (mtext (K + 1 + ((mkL mkS).cnt xs[i].2.1 : Nat) + 1 + 1 + 1)))) := (kb7.set (off + i * 6 + 5) (.string (mtext (K + 1 + ((mkL mkS).cnt xs[i].2.1 : Nat) + 1 + 1 + 1))))
      have on8 : Only bl w (w7.setCell ⟨g, off + i * 6 + 5, none⟩ (.string (mtext (K + 1 + ((mkL mkS).cnt xs[i].2.1 : Nat) + 1 + 1 + 1)))) := (on7.but (But.set _ g (off + i * 6 + 5) (.string (mtext (K + 1 + ((mkL mkS).cnt xs[i].2.1 : Nat) + 1 + 1 + 1)))) hgm)
      have bu8 : But g w7 (w7.setCell ⟨g, off + i * 6 + 5, none⟩ (.string (mtext (K + 1 + ((mkL mkS).cnt xs[i].2.1 : Nat) + 1 + 1 + 1)))) := But.set _ g (off + i * 6 + 5) (.string (mtext (K + 1 + ((mkL mkS).cnt xs[i].2.1 : Nat) + 1 + 1 + 1)))
      have s8_1 := s7_1.keep good_S (fun y hy => bu8.block y (fun e => hng1 (e ▸ hy)))
      have re8 : ∀ y, y < hi → y ≠ g → y ∉ b → (w7.setCell ⟨g, off + i * 6 + 5, none⟩ (.string (mtext (K + 1 + ((mkL mkS).cnt xs[i].2.1 : Nat) + 1 + 1 + 1)))).heap[y]? = wr.heap[y]? := fun y hy hyg hyb => (bu8.block y hyg).trans (re7 y hy hyg hyb)
      have hxm : (mmImage).mark xs[i] K = ((mtext (K)), (markL mkS xs[i].2.1 (K + 1)), ((K + 1 + ((mkL mkS).cnt xs[i].2.1 : Nat)) % 3 == 0), (mtext (K + 1 + ((mkL mkS).cnt xs[i].2.1 : Nat) + 1)), ((K + 1 + ((mkL mkS).cnt xs[i].2.1 : Nat) + 1 + 1) % 3 == 0), (mtext (K + 1 + ((mkL mkS).cnt xs[i].2.1 : Nat) + 1 + 1 + 1))) := rfl
      have hown : shImage.own (w7.setCell ⟨g, off + i * 6 + 5, none⟩ (.string (mtext (K + 1 + ((mkL mkS).cnt xs[i].2.1 : Nat) + 1 + 1 + 1)))) lo hi [.string (mtext K), .slice D1 (markL mkS xs[i].2.1 (K + 1)).length d1, .bool ((K + 1 + ((mkL mkS).cnt xs[i].2.1 : Nat)) % 3 == 0), .string (mtext (K + 1 + ((mkL mkS).cnt xs[i].2.1 : Nat) + 1)), .bool ((K + 1 + ((mkL mkS).cnt xs[i].2.1 : Nat) + 1 + 1) % 3 == 0), .string (mtext (K + 1 + ((mkL mkS).cnt xs[i].2.1 : Nat) + 1 + 1 + 1))] ((mtext (K)), (markL mkS xs[i].2.1 (K + 1)), ((K + 1 + ((mkL mkS).cnt xs[i].2.1 : Nat)) % 3 == 0), (mtext (K + 1 + ((mkL mkS).cnt xs[i].2.1 : Nat) + 1)), ((K + 1 + ((mkL mkS).cnt xs[i].2.1 : Nat) + 1 + 1) % 3 == 0), (mtext (K + 1 + ((mkL mkS).cnt xs[i].2.1 : Nat) + 1 + 1 + 1))) b := by rw [hbe]; exact mkOImage (x := ((mtext (K)), (markL mkS xs[i].2.1 (K + 1)), ((K + 1 + ((mkL mkS).cnt xs[i].2.1 : Nat)) % 3 == 0), (mtext (K + 1 + ((mkL mkS).cnt xs[i].2.1 : Nat) + 1)), ((K + 1 + ((mkL mkS).cnt xs[i].2.1 : Nat) + 1 + 1) % 3 == 0), (mtext (K + 1 + ((mkL mkS).cnt xs[i].2.1 : Nat) + 1 + 1 + 1)))) (mtext_le (by omega)) s8_1 (mtext_le (by omega)) (mtext_le (by omega))
      have hcell : ∀ j, j < shImage.size → (((((C.setIfInBounds (off + i * 6) (.string (mtext K))).setIfInBounds (off + i * 6 + 2) (.bool ((K + 1 + ((mkL mkS).cnt xs[i].2.1 : Nat)) % 3 == 0))).setIfInBounds (off + i * 6 + 3) (.string (mtext (K + 1 + ((mkL mkS).cnt xs[i].2.1 : Nat) + 1)))).setIfInBounds (off + i * 6 + 4) (.bool ((K + 1 + ((mkL mkS).cnt xs[i].2.1 : Nat) + 1 + 1) % 3 == 0))).setIfInBounds (off + i * 6 + 5) (.string (mtext (K + 1 + ((mkL mkS).cnt xs[i].2.1 : Nat) + 1 + 1 + 1))))[off + (i * shImage.size + j)]? = [.string (mtext K), .slice D1 (markL mkS xs[i].2.1 (K + 1)).length d1, .bool ((K + 1 + ((mkL mkS).cnt xs[i].2.1 : Nat)) % 3 == 0), .string (mtext (K + 1 + ((mkL mkS).cnt xs[i].2.1 : Nat) + 1)), .bool ((K + 1 + ((mkL mkS).cnt xs[i].2.1 : Nat) + 1 + 1) % 3 == 0), .string (mtext (K + 1 + ((mkL mkS).cnt xs[i].2.1 : Nat) + 1 + 1 + 1))][j]? := by
        intro j hj
        have hj' : j < 6 := hj
        by_cases hj0 : j = 0
        · subst hj0
          show (((((C.setIfInBounds (off + i * 6) (.string (mtext K))).setIfInBounds (off + i * 6 + 2) (.bool ((K + 1 + ((mkL mkS).cnt xs[i].2.1 : Nat)) % 3 == 0))).setIfInBounds (off + i * 6 + 3) (.string (mtext (K + 1 + ((mkL mkS).cnt xs[i].2.1 : Nat) + 1)))).setIfInBounds (off + i * 6 + 4) (.bool ((K + 1 + ((mkL mkS).cnt xs[i].2.1 : Nat) + 1 + 1) % 3 == 0))).setIfInBounds (off + i * 6 + 5) (.string (mtext (K + 1 + ((mkL mkS).cnt xs[i].2.1 : Nat) + 1 + 1 + 1))))[off + (i * 6 + 0)]? = some _
          rw [show off + (i * 6 + 0) = off + i * 6 by omega]
          rw [set_ne (by omega)]; rw [set_ne (by omega)]; rw [set_ne (by omega)]; rw [set_ne (by omega)]; exact set_same rfl e0
        by_cases hj1 : j = 1
        · subst hj1
          show (((((C.setIfInBounds (off + i * 6) (.string (mtext K))).setIfInBounds (off + i * 6 + 2) (.bool ((K + 1 + ((mkL mkS).cnt xs[i].2.1 : Nat)) % 3 == 0))).setIfInBounds (off + i * 6 + 3) (.string (mtext (K + 1 + ((mkL mkS).cnt xs[i].2.1 : Nat) + 1)))).setIfInBounds (off + i * 6 + 4) (.bool ((K + 1 + ((mkL mkS).cnt xs[i].2.1 : Nat) + 1 + 1) % 3 == 0))).setIfInBounds (off + i * 6 + 5) (.string (mtext (K + 1 + ((mkL mkS).cnt xs[i].2.1 : Nat) + 1 + 1 + 1))))[off + (i * 6 + 1)]? = some _
          rw [show off + (i * 6 + 1) = off + i * 6 + 1 by omega]
          rw [markL_len]
          rw [set_ne (by omega)]; rw [set_ne (by omega)]; rw [set_ne (by omega)]; rw [set_ne (by omega)]; rw [set_ne (by omega)]; exact e1
        by_cases hj2 : j = 2
        · subst hj2
          show (((((C.setIfInBounds (off + i * 6) (.string (mtext K))).setIfInBounds (off + i * 6 + 2) (.bool ((K + 1 + ((mkL mkS).cnt xs[i].2.1 : Nat)) % 3 == 0))).setIfInBounds (off + i * 6 + 3) (.string (mtext (K + 1 + ((mkL mkS).cnt xs[i].2.1 : Nat) + 1)))).setIfInBounds (off + i * 6 + 4) (.bool ((K + 1 + ((mkL mkS).cnt xs[i].2.1 : Nat) + 1 + 1) % 3 == 0))).setIfInBounds (off + i * 6 + 5) (.string (mtext (K + 1 + ((mkL mkS).cnt xs[i].2.1 : Nat) + 1 + 1 + 1))))[off + (i * 6 + 2)]? = some _
          rw [show off + (i * 6 + 2) = off + i * 6 + 2 by omega]
          rw [set_ne (by omega)]; rw [set_ne (by omega)]; rw [set_ne (by omega)]; exact set_same rfl (by rw [set_ne (by omega)]; exact e2)
        by_cases hj3 : j = 3
        · subst hj3
          show (((((C.setIfInBounds (off + i * 6) (.string (mtext K))).setIfInBounds (off + i * 6 + 2) (.bool ((K + 1 + ((mkL mkS).cnt xs[i].2.1 : Nat)) % 3 == 0))).setIfInBounds (off + i * 6 + 3) (.string (mtext (K + 1 + ((mkL mkS).cnt xs[i].2.1 : Nat) + 1)))).setIfInBounds (off + i * 6 + 4) (.bool ((K + 1 + ((mkL mkS).cnt xs[i].2.1 : Nat) + 1 + 1) % 3 == 0))).setIfInBounds (off + i * 6 + 5) (.string (mtext (K + 1 + ((mkL mkS).cnt xs[i].2.1 : Nat) + 1 + 1 + 1))))[off + (i * 6 + 3)]? = some _
          rw [show off + (i * 6 + 3) = off + i * 6 + 3 by omega]
          rw [set_ne (by omega)]; rw [set_ne (by omega)]; exact set_same rfl (by rw [set_ne (by omega)]; rw [set_ne (by omega)]; exact e3)
        by_cases hj4 : j = 4
        · subst hj4
          show (((((C.setIfInBounds (off + i * 6) (.string (mtext K))).setIfInBounds (off + i * 6 + 2) (.bool ((K + 1 + ((mkL mkS).cnt xs[i].2.1 : Nat)) % 3 == 0))).setIfInBounds (off + i * 6 + 3) (.string (mtext (K + 1 + ((mkL mkS).cnt xs[i].2.1 : Nat) + 1)))).setIfInBounds (off + i * 6 + 4) (.bool ((K + 1 + ((mkL mkS).cnt xs[i].2.1 : Nat) + 1 + 1) % 3 == 0))).setIfInBounds (off + i * 6 + 5) (.string (mtext (K + 1 + ((mkL mkS).cnt xs[i].2.1 : Nat) + 1 + 1 + 1))))[off + (i * 6 + 4)]? = some _
          rw [show off + (i * 6 + 4) = off + i * 6 + 4 by omega]
          rw [set_ne (by omega)]; exact set_same rfl (by rw [set_ne (by omega)]; rw [set_ne (by omega)]; rw [set_ne (by omega)]; exact e4)
        by_cases hj5 : j = 5
        · subst hj5
          show (((((C.setIfInBounds (off + i * 6) (.string (mtext K))).setIfInBounds (off + i * 6 + 2) (.bool ((K + 1 + ((mkL mkS).cnt xs[i].2.1 : Nat)) % 3 == 0))).setIfInBounds (off + i * 6 + 3) (.string (mtext (K + 1 + ((mkL mkS).cnt xs[i].2.1 : Nat) + 1)))).setIfInBounds (off + i * 6 + 4) (.bool ((K + 1 + ((mkL mkS).cnt xs[i].2.1 : Nat) + 1 + 1) % 3 == 0))).setIfInBounds (off + i * 6 + 5) (.string (mtext (K + 1 + ((mkL mkS).cnt xs[i].2.1 : Nat) + 1 + 1 + 1))))[off + (i * 6 + 5)]? = some _
          rw [show off + (i * 6 + 5) = off + i * 6 + 5 by omega]
          exact set_same rfl (by rw [set_ne (by omega)]; rw [set_ne (by omega)]; rw [set_ne (by omega)]; rw [set_ne (by omega)]; exact e5)
        omega
      have hfar : ∀ p, (p < off + i * shImage.size ∨ off + i * shImage.size + shImage.size ≤ p) → (((((C.setIfInBounds (off + i * 6) (.string (mtext K))).setIfInBounds (off + i * 6 + 2) (.bool ((K + 1 + ((mkL mkS).cnt xs[i].2.1 : Nat)) % 3 == 0))).setIfInBounds (off + i * 6 + 3) (.string (mtext (K + 1 + ((mkL mkS).cnt xs[i].2.1 : Nat) + 1)))).setIfInBounds (off + i * 6 + 4) (.bool ((K + 1 + ((mkL mkS).cnt xs[i].2.1 : Nat) + 1 + 1) % 3 == 0))).setIfInBounds (off + i * 6 + 5) (.string (mtext (K + 1 + ((mkL mkS).cnt xs[i].2.1 : Nat) + 1 + 1 + 1))))[p]? = C[p]? := by
        intro p hp
        have hp' : p < off + i * 6 ∨ off + i * 6 + 6 ≤ p := hp
        rw [set_ne (by omega)]; rw [set_ne (by omega)]; rw [set_ne (by omega)]; rw [set_ne (by omega)]; rw [set_ne (by omega)]
      have hS2 := hput _ _ _ _ kb8 hcell hfar hown (fun y hy hyg hyb => re8 y (hS.in_ good_Image y hy).2 hyg hyb)
      have hpm : (pm mmImage xs k i).set i ((mtext (K)), (markL mkS xs[i].2.1 (K + 1)), ((K + 1 + ((mkL mkS).cnt xs[i].2.1 : Nat)) % 3 == 0), (mtext (K + 1 + ((mkL mkS).cnt xs[i].2.1 : Nat) + 1)), ((K + 1 + ((mkL mkS).cnt xs[i].2.1 : Nat) + 1 + 1) % 3 == 0), (mtext (K + 1 + ((mkL mkS).cnt xs[i].2.1 : Nat) + 1 + 1 + 1))) = pm mmImage xs k (i + 1) := by rw [← hxm, HK.out]; exact pm_succ mmImage xs k i hlt
      rw [hpm] at hS2
      clear hpm hxm
      have hcn : ((mmImage).cnt xs[i] : Nat) = 1 + ((mkL mkS).cnt xs[i].2.1 + (1 + (1 + (1 + (1))))) := rfl
      have HK3 : Hid (K + 1 + ((mkL mkS).cnt xs[i].2.1 : Nat) + 1 + 1 + 1 + 1 = k + psum (mmImage).cnt xs (i + 1)) := by unfold Hid; rw [← HK2.out, hcn]; omega
      have hk5 : K + 1 + ((mkL mkS).cnt xs[i].2.1 : Nat) + 1 + 1 + 1 + 1 ≤ 1000000000 := by rw [hcn] at hKb; omega
      clear hcn
      go_roundw
      case rel => exact ⟨i + 1, K + 1 + ((mkL mkS).cnt xs[i].2.1 : Nat) + 1 + 1 + 1 + 1, by omega, rfl, by go_num, HK3, by omega, hk5, hS2, on8⟩
      case measure => simp [intOf]; omega
    · have HE : Hid (K = k + ((mkL mmImage).cnt xs : Nat)) := by unfold Hid; rw [HK.out]; show _ = k + (((xs.map (mmImage).cnt).sum : Nat) : Int); rw [← psum_all (mmImage).cnt xs, show i = xs.length by omega]
      rw [pm_all mmImage xs k i (by omega)] at hS
      go_wp2_with fail
      go_ret
      exact MarkL.mk HE hS hO

end Go.Proofs.YtanjmolgpkffoaaGreatDoor
