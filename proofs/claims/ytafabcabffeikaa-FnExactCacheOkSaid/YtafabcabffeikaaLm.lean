/-
  Contracts of the laws' mark and held helpers.
-/
import Derived.Test.YtafabcabffeikaaRows
import Derived.Test.YtafabcabffeikaaTy
import Derived.Test.YtafabcabffeikaaRep3
import Derived.Test.YtafabcabffeikaaLt
import Derived.StillTailTactics
import Derived.Lib.SlBytesRow
namespace Go.Proofs.Ytafabcabffeikaa
open Go.RowKit
set_option linter.unusedVariables false
set_option linter.unusedSimpArgs false

theorem run_one (n : Nat) (hn : n < 256) (W : World) : (convert 117 9 (.slice (some ⟨W.heap.size, 0, none⟩) 1 1)).run Try.prog (W.alloc (.cells #[.int .u8 (n : Int)] 5)) = .ok (.string ⟨#[UInt8.ofNat n]⟩) (W.alloc (.cells #[.int .u8 (n : Int)] 5)) := by
  have h := Lib.run_convert_whole (P := Try.prog) (W.alloc (.cells #[.int .u8 (n : Int)] 5)) 117 5 9 Try.underlying117 Try.underlying5 Try.underlying9 W.heap.size 0 ⟨#[UInt8.ofNat n]⟩ (fun i hi => ?_) 1
  · exact h
  · obtain rfl : i = 0 := by have : i < 1 := hi; omega
    rw [(Bk.new W 5 #[.int .u8 (n : Int)]).cell]
    have e : (UInt8.ofNat n).toNat = n := by rw [UInt8.toNat_ofNat']; omega
    show some (Value.int .u8 (n : Int)) = some (.int .u8 (((UInt8.ofNat n).toNat : Nat) : Int))
    rw [e]
set_option maxRecDepth 100000 in
set_option maxHeartbeats 1000000 in
theorem c_markText (k : Int) (w : World) (h0 : 0 < k) (h1 : k ≤ 1000000000) : Calls Try.prog 137 #[.int .i64 k] w (RetV (.string (mtext k)) w) := by
  have hk : Hid (mtext k = ⟨#[109]⟩ ++ dg k.toNat k.toNat ⟨#[]⟩) := rfl
  go_enter Try.func137, Try.ntmps137
  go_wp2_with fail
  go_loopw [0, 3] (fun a b wr => ∃ (m f : Nat) (out : ByteArray), a = .int .i64 m ∧ b = .string out ∧ m ≤ f ∧ (m : Int) ≤ k ∧ out.size + m ≤ 1000000000 ∧ Hid (dg f m out = dg k.toNat k.toNat ⟨#[]⟩) ∧ Up w wr) (fun a _ _ => (intOf a).toNat)
  case atStart => exact ⟨k.toNat, k.toNat, ⟨#[]⟩, by go_num, rfl, Nat.le_refl _, by omega, by show 0 + k.toNat ≤ _; omega, rfl, Up.refl _⟩
  case round =>
    obtain ⟨m, f, out, rfl, rfl, hf, hmk, hsz, HD, hu⟩ := hrel
    by_cases hm : (0 : Int) < m
    · obtain ⟨f, rfl⟩ : ∃ f', f = f' + 1 := ⟨f - 1, by omega⟩
      have HN : Hid (dg f (m / 10) (⟨#[UInt8.ofNat (48 + m % 10)]⟩ ++ out) = dg k.toNat k.toNat ⟨#[]⟩) := by
        have h := HD.out
        unfold Hid
        rw [← h]
        conv => rhs; unfold dg
        rw [if_neg (by omega)]
      have hcv := fun W : World => run_one (48 + m % 10) (by omega) W
      have ec : ((48 + m % 10 : Nat) : Int) = 48 + (m : Int) % 10 := by omega
      simp only [ec] at hcv
      clear ec
      have h1s : (ByteArray.mk #[UInt8.ofNat (48 + m % 10)]).size = 1 := rfl
      generalize ByteArray.mk #[UInt8.ofNat (48 + m % 10)] = dgt at *
      go_wp2_with fail
      go_roundw
      case rel => exact ⟨m / 10, f, dgt ++ out, by go_num, rfl, by omega, by omega, by rw [ByteArray.size_append]; omega, HN, hu.alloc _⟩
      case measure => simp [intOf]; omega
    · obtain rfl : m = 0 := by omega
      have HO : Hid (mtext k = ⟨#[109]⟩ ++ out) := by unfold Hid; rw [hk.out, ← HD.out, dg_zero]
      go_wp2_with fail
      go_ret
      exact ret_str HO hu

def mmSeat : Mk TSeat := (mkP mkI mkI)
theorem gm_Seat : GoodM mmSeat := (gm_P gm_I gm_I)
def mmTSeat : Mk TSeat := (mkP mk0 mk0)
theorem gmT_Seat : GoodM mmTSeat := (gm_P gm_0 gm_0)
def mmPut : Mk TPut := (mkP mkI mkS)
theorem gm_Put : GoodM mmPut := (gm_P gm_I gm_S)
def mmTPut : Mk TPut := (mkP mk0 mk0)
theorem gmT_Put : GoodM mmTPut := (gm_P gm_0 gm_0)
def mmDisk : Mk TDisk := (mkP mkI (mkP (mkL mkS) (mkL mmPut)))
theorem gm_Disk : GoodM mmDisk := (gm_P gm_I (gm_P (gm_L gm_S) (gm_L gm_Put)))
def mmTDisk : Mk TDisk := (mkP mk0 (mkP (mkL mkS) (mkL mmPut)))
theorem gmT_Disk : GoodM mmTDisk := (gm_P gm_0 (gm_P (gm_L gm_S) (gm_L gm_Put)))
def mmPage : Mk TPage := (mkP mkB (mkP (mkL mkS) (mkP (mkL mkS) (mkL mkI))))
theorem gm_Page : GoodM mmPage := (gm_P gm_B (gm_P (gm_L gm_S) (gm_P (gm_L gm_S) (gm_L gm_I))))
def mmTPage : Mk TPage := (mkP mk0 (mkP (mkL mkS) (mkP (mkL mkS) (mkL mkI))))
theorem gmT_Page : GoodM mmTPage := (gm_P gm_0 (gm_P (gm_L gm_S) (gm_P (gm_L gm_S) (gm_L gm_I))))
def mmSlot : Mk TSlot := (mkP mkI mmPage)
theorem gm_Slot : GoodM mmSlot := (gm_P gm_I gm_Page)
def mmTSlot : Mk TSlot := (mkP mk0 mmTPage)
theorem gmT_Slot : GoodM mmTSlot := (gm_P gm_0 gmT_Page)
def mmBtree : Mk TBtree := (mkP mkI (mkL mmSlot))
theorem gm_Btree : GoodM mmBtree := (gm_P gm_I (gm_L gm_Slot))
def mmTBtree : Mk TBtree := (mkP mk0 (mkL mmSlot))
theorem gmT_Btree : GoodM mmTBtree := (gm_P gm_0 (gm_L gm_Slot))
def mmJournal : Mk TJournal := (mkP mmDisk (mkP mkI (mkP mkI (mkP mkI mkI))))
theorem gm_Journal : GoodM mmJournal := (gm_P gm_Disk (gm_P gm_I (gm_P gm_I (gm_P gm_I gm_I))))
def mmTJournal : Mk TJournal := (mkP mmTDisk (mkP mk0 (mkP mk0 (mkP mk0 mk0))))
theorem gmT_Journal : GoodM mmTJournal := (gm_P gmT_Disk (gm_P gm_0 (gm_P gm_0 (gm_P gm_0 gm_0))))

set_option maxRecDepth 100000 in
set_option maxHeartbeats 4000000 in
theorem c_markStringS (xs : List ByteArray) (A : Option Addr) (c : Nat) (k : Int) (lo hi : Nat) (bl : List Nat) (w : World) (h : SO shS w lo hi A c xs bl) (hhi : hi ≤ w.heap.size) (hnd : bl.Nodup) (hk0 : 0 < k) (hk1 : k + ((mkL mkS).cnt xs : Nat) ≤ 1000000000) :
    Calls Try.prog 79 #[.slice A xs.length c, .int .i64 k] w (MarkL shS mkS lo hi A c xs k bl w) := by
  have hlen : xs.length ≤ 9223372036854775807 := (h.rep good_S).len_le
  have hk2 : k + ((xs.map (mkS).cnt).sum : Nat) ≤ 1000000000 := hk1
  clear hk1
  go_enter Try.func79, Try.ntmps79
  go_wp2_with fail
  go_loopw [1, 5] (fun a b wr => ∃ (i : Nat) (K : Int), i ≤ xs.length ∧ a = .int .i64 K ∧ b = .int .i64 i ∧ Hid (K = k + psum (mkS).cnt xs i) ∧ 0 < K ∧ K ≤ 1000000000 ∧ SO shS wr lo hi A c (pm mkS xs k i) bl ∧ Only bl w wr) (fun _ b _ => xs.length - (intOf b).toNat)
  case atStart => exact ⟨0, k, Nat.zero_le _, rfl, rfl, by unfold Hid; rw [psum_zero]; simp, hk0, by omega, by rw [pm_zero]; exact h, Only.refl _ _⟩
  case round =>
    obtain ⟨i, K, hii, rfl, rfl, HK, hK0, hK1, hS, hO⟩ := hrel
    by_cases hlt : i < xs.length
    · have hps := psum_le (mkS).cnt xs (i + 1)
      rw [psum_succ (mkS).cnt xs i hlt] at hps
      have hKb : K + ((mkS).cnt xs[i] : Nat) ≤ 1000000000 := by rw [HK.out]; omega
      have HK2 : Hid (K + ((mkS).cnt xs[i] : Nat) = k + psum (mkS).cnt xs (i + 1)) := by unfold Hid; rw [HK.out, psum_succ (mkS).cnt xs i hlt]; omega
      have hhi2 : hi ≤ wr.heap.size := Nat.le_trans hhi hO.size
      obtain ⟨g, off, C, tid, b, cs, rfl, hg1, hg2, hbk, hcl, hcells, ho, hgm, hgb, hbn, hbm, hput⟩ := hS.focus good_S hnd (pm_at mkS xs k i hlt)
      clear hcl hps
      have hKc : K + ((1 : Nat) : Int) ≤ 1000000000 := hKb
      obtain ⟨⟨rfl, f0⟩, hbe⟩ := ho
      have e0 : C[off + i]? = some (.string xs[i]) := by simpa [shS] using hcells 0 (by decide)
      have c0_0 : wr.cell? ⟨g, off + i, none⟩ = some (.string xs[i]) := by rw [hbk.cell]; exact e0
      have z0_0 : wr.frozen? ⟨g, off + i, none⟩ = false := hbk.frozen _
      go_wp2_with fail
      refine (c_markText _ _ (by omega) (by omega)).mono ?_
      rintro e w1 ⟨rfl, u1⟩
      have kb1 := hbk.up u1
      have on1 := hO.up u1
      have sz1 : hi ≤ w1.heap.size := Nat.le_trans hhi on1.size
      have re1 : ∀ y, y < hi → y ≠ g → y ∉ b → w1.heap[y]? = wr.heap[y]? := fun y hy hyg hyb => (u1.block y (Nat.lt_of_lt_of_le hy (Nat.le_trans hhi hO.size)))
      have c1_0 : w1.cell? ⟨g, off + i, none⟩ = some (.string xs[i]) := by rw [kb1.cell]; exact e0
      have z1_0 : w1.frozen? ⟨g, off + i, none⟩ = false := kb1.frozen _
      clear u1
      go_wp2_with fail
      have kb2 : Bk (w1.setCell ⟨g, off + i, none⟩ (.string (mtext K))) g tid (C.setIfInBounds (off + i) (.string (mtext K))) := (kb1.set (off + i) (.string (mtext K)))
      have on2 : Only bl w (w1.setCell ⟨g, off + i, none⟩ (.string (mtext K))) := (on1.but (But.set _ g (off + i) (.string (mtext K))) hgm)
      have bu2 : But g w1 (w1.setCell ⟨g, off + i, none⟩ (.string (mtext K))) := But.set _ g (off + i) (.string (mtext K))
      have re2 : ∀ y, y < hi → y ≠ g → y ∉ b → (w1.setCell ⟨g, off + i, none⟩ (.string (mtext K))).heap[y]? = wr.heap[y]? := fun y hy hyg hyb => (bu2.block y hyg).trans (re1 y hy hyg hyb)
      have hxm : (mkS).mark xs[i] K = (mtext (K)) := rfl
      have hown : shS.own (w1.setCell ⟨g, off + i, none⟩ (.string (mtext K))) lo hi [.string (mtext K)] (mtext (K)) b := ⟨⟨rfl, (mtext_le (by omega))⟩, hbe⟩
      have hcell : ∀ j, j < shS.size → (C.setIfInBounds (off + i) (.string (mtext K)))[off + (i * shS.size + j)]? = [.string (mtext K)][j]? := by
        intro j hj
        obtain rfl : j = 0 := by have : j < 1 := hj; omega
        show (C.setIfInBounds (off + i) (.string (mtext K)))[off + (i * 1 + 0)]? = some _
        exact set_same (by omega) e0
      have hfar : ∀ p, (p < off + i * shS.size ∨ off + i * shS.size + shS.size ≤ p) → (C.setIfInBounds (off + i) (.string (mtext K)))[p]? = C[p]? := by
        intro p hp
        have hp' : p < off + i * 1 ∨ off + i * 1 + 1 ≤ p := hp
        rw [set_ne (by omega)]
      have hS2 := hput _ _ _ _ kb2 hcell hfar hown (fun y hy hyg hyb => re2 y (hS.in_ good_S y hy).2 hyg hyb)
      have hpm : (pm mkS xs k i).set i (mtext (K)) = pm mkS xs k (i + 1) := by rw [← hxm, HK.out]; exact pm_succ mkS xs k i hlt
      rw [hpm] at hS2
      clear hpm hxm
      have hcn : ((mkS).cnt xs[i] : Nat) = 1 := rfl
      have HK3 : Hid (K + 1 = k + psum (mkS).cnt xs (i + 1)) := by unfold Hid; rw [← HK2.out, hcn]; omega
      have hk5 : K + 1 ≤ 1000000000 := by rw [hcn] at hKb; omega
      clear hcn
      go_roundw
      case rel => exact ⟨i + 1, K + 1, by omega, rfl, by go_num, HK3, by omega, hk5, hS2, on2⟩
      case measure => simp [intOf]; omega
    · have HE : Hid (K = k + ((mkL mkS).cnt xs : Nat)) := by unfold Hid; rw [HK.out]; show _ = k + (((xs.map (mkS).cnt).sum : Nat) : Int); rw [← psum_all (mkS).cnt xs, show i = xs.length by omega]
      rw [pm_all mkS xs k i (by omega)] at hS
      go_wp2_with fail
      go_ret
      exact MarkL.mk HE hS hO

set_option maxRecDepth 100000 in
set_option maxHeartbeats 4000000 in
theorem c_markInt64S (xs : List Int) (A : Option Addr) (c : Nat) (k : Int) (lo hi : Nat) (bl : List Nat) (w : World) (h : SO shI w lo hi A c xs bl) (hhi : hi ≤ w.heap.size) (hnd : bl.Nodup) (hk0 : 0 < k) (hk1 : k + ((mkL mkI).cnt xs : Nat) ≤ 1000000000) :
    Calls Try.prog 36 #[.slice A xs.length c, .int .i64 k] w (MarkL shI mkI lo hi A c xs k bl w) := by
  have hlen : xs.length ≤ 9223372036854775807 := (h.rep good_I).len_le
  have hk2 : k + ((xs.map (mkI).cnt).sum : Nat) ≤ 1000000000 := hk1
  clear hk1
  go_enter Try.func36, Try.ntmps36
  go_wp2_with fail
  go_loopw [1, 5] (fun a b wr => ∃ (i : Nat) (K : Int), i ≤ xs.length ∧ a = .int .i64 K ∧ b = .int .i64 i ∧ Hid (K = k + psum (mkI).cnt xs i) ∧ 0 < K ∧ K ≤ 1000000000 ∧ SO shI wr lo hi A c (pm mkI xs k i) bl ∧ Only bl w wr) (fun _ b _ => xs.length - (intOf b).toNat)
  case atStart => exact ⟨0, k, Nat.zero_le _, rfl, rfl, by unfold Hid; rw [psum_zero]; simp, hk0, by omega, by rw [pm_zero]; exact h, Only.refl _ _⟩
  case round =>
    obtain ⟨i, K, hii, rfl, rfl, HK, hK0, hK1, hS, hO⟩ := hrel
    by_cases hlt : i < xs.length
    · have hps := psum_le (mkI).cnt xs (i + 1)
      rw [psum_succ (mkI).cnt xs i hlt] at hps
      have hKb : K + ((mkI).cnt xs[i] : Nat) ≤ 1000000000 := by rw [HK.out]; omega
      have HK2 : Hid (K + ((mkI).cnt xs[i] : Nat) = k + psum (mkI).cnt xs (i + 1)) := by unfold Hid; rw [HK.out, psum_succ (mkI).cnt xs i hlt]; omega
      have hhi2 : hi ≤ wr.heap.size := Nat.le_trans hhi hO.size
      obtain ⟨g, off, C, tid, b, cs, rfl, hg1, hg2, hbk, hcl, hcells, ho, hgm, hgb, hbn, hbm, hput⟩ := hS.focus good_I hnd (pm_at mkI xs k i hlt)
      clear hcl hps
      have hKc : K + ((1 : Nat) : Int) ≤ 1000000000 := hKb
      obtain ⟨⟨rfl, f0⟩, hbe⟩ := ho
      have e0 : C[off + i]? = some (.int .i64 xs[i]) := by simpa [shI] using hcells 0 (by decide)
      have c0_0 : wr.cell? ⟨g, off + i, none⟩ = some (.int .i64 xs[i]) := by rw [hbk.cell]; exact e0
      have z0_0 : wr.frozen? ⟨g, off + i, none⟩ = false := hbk.frozen _
      go_wp2_with fail
      have kb1 : Bk (wr.setCell ⟨g, off + i, none⟩ (.int .i64 K)) g tid (C.setIfInBounds (off + i) (.int .i64 K)) := (hbk.set (off + i) (.int .i64 K))
      have on1 : Only bl w (wr.setCell ⟨g, off + i, none⟩ (.int .i64 K)) := (hO.but (But.set _ g (off + i) (.int .i64 K)) hgm)
      have bu1 : But g wr (wr.setCell ⟨g, off + i, none⟩ (.int .i64 K)) := But.set _ g (off + i) (.int .i64 K)
      have re1 : ∀ y, y < hi → y ≠ g → y ∉ b → (wr.setCell ⟨g, off + i, none⟩ (.int .i64 K)).heap[y]? = wr.heap[y]? := fun y hy hyg hyb => (bu1.block y hyg)
      have hxm : (mkI).mark xs[i] K = (K) := rfl
      have hown : shI.own (wr.setCell ⟨g, off + i, none⟩ (.int .i64 K)) lo hi [.int .i64 K] (K) b := ⟨⟨rfl, ⟨by omega, by omega⟩⟩, hbe⟩
      have hcell : ∀ j, j < shI.size → (C.setIfInBounds (off + i) (.int .i64 K))[off + (i * shI.size + j)]? = [.int .i64 K][j]? := by
        intro j hj
        obtain rfl : j = 0 := by have : j < 1 := hj; omega
        show (C.setIfInBounds (off + i) (.int .i64 K))[off + (i * 1 + 0)]? = some _
        exact set_same (by omega) e0
      have hfar : ∀ p, (p < off + i * shI.size ∨ off + i * shI.size + shI.size ≤ p) → (C.setIfInBounds (off + i) (.int .i64 K))[p]? = C[p]? := by
        intro p hp
        have hp' : p < off + i * 1 ∨ off + i * 1 + 1 ≤ p := hp
        rw [set_ne (by omega)]
      have hS2 := hput _ _ _ _ kb1 hcell hfar hown (fun y hy hyg hyb => re1 y (hS.in_ good_I y hy).2 hyg hyb)
      have hpm : (pm mkI xs k i).set i (K) = pm mkI xs k (i + 1) := by rw [← hxm, HK.out]; exact pm_succ mkI xs k i hlt
      rw [hpm] at hS2
      clear hpm hxm
      have hcn : ((mkI).cnt xs[i] : Nat) = 1 := rfl
      have HK3 : Hid (K + 1 = k + psum (mkI).cnt xs (i + 1)) := by unfold Hid; rw [← HK2.out, hcn]; omega
      have hk5 : K + 1 ≤ 1000000000 := by rw [hcn] at hKb; omega
      clear hcn
      go_roundw
      case rel => exact ⟨i + 1, K + 1, by omega, rfl, by go_num, HK3, by omega, hk5, hS2, on1⟩
      case measure => simp [intOf]; omega
    · have HE : Hid (K = k + ((mkL mkI).cnt xs : Nat)) := by unfold Hid; rw [HK.out]; show _ = k + (((xs.map (mkI).cnt).sum : Nat) : Int); rw [← psum_all (mkI).cnt xs, show i = xs.length by omega]
      rw [pm_all mkI xs k i (by omega)] at hS
      go_wp2_with fail
      go_ret
      exact MarkL.mk HE hS hO


set_option maxRecDepth 100000 in
set_option maxHeartbeats 4000000 in
theorem c_markPutS (xs : List TPut) (A : Option Addr) (c : Nat) (k : Int) (lo hi : Nat) (bl : List Nat) (w : World) (h : SO shPut w lo hi A c xs bl) (hhi : hi ≤ w.heap.size) (hnd : bl.Nodup) (hk0 : 0 < k) (hk1 : k + ((mkL mmPut).cnt xs : Nat) ≤ 1000000000) :
    Calls Try.prog 80 #[.slice A xs.length c, .int .i64 k] w (MarkL shPut mmPut lo hi A c xs k bl w) := by
  have hlen : xs.length ≤ 9223372036854775807 := (h.rep good_Put).len_le
  have hk2 : k + ((xs.map (mmPut).cnt).sum : Nat) ≤ 1000000000 := hk1
  clear hk1
  go_enter Try.func80, Try.ntmps80
  go_wp2_with fail
  go_loopw [1, 5] (fun a b wr => ∃ (i : Nat) (K : Int), i ≤ xs.length ∧ a = .int .i64 K ∧ b = .int .i64 i ∧ Hid (K = k + psum (mmPut).cnt xs i) ∧ 0 < K ∧ K ≤ 1000000000 ∧ SO shPut wr lo hi A c (pm mmPut xs k i) bl ∧ Only bl w wr) (fun _ b _ => xs.length - (intOf b).toNat)
  case atStart => exact ⟨0, k, Nat.zero_le _, rfl, rfl, by unfold Hid; rw [psum_zero]; simp, hk0, by omega, by rw [pm_zero]; exact h, Only.refl _ _⟩
  case round =>
    obtain ⟨i, K, hii, rfl, rfl, HK, hK0, hK1, hS, hO⟩ := hrel
    by_cases hlt : i < xs.length
    · have hps := psum_le (mmPut).cnt xs (i + 1)
      rw [psum_succ (mmPut).cnt xs i hlt] at hps
      have hKb : K + ((mmPut).cnt xs[i] : Nat) ≤ 1000000000 := by rw [HK.out]; omega
      have HK2 : Hid (K + ((mmPut).cnt xs[i] : Nat) = k + psum (mmPut).cnt xs (i + 1)) := by unfold Hid; rw [HK.out, psum_succ (mmPut).cnt xs i hlt]; omega
      have hhi2 : hi ≤ wr.heap.size := Nat.le_trans hhi hO.size
      obtain ⟨g, off, C, tid, b, cs, rfl, hg1, hg2, hbk, hcl, hcells, ho, hgm, hgb, hbn, hbm, hput⟩ := hS.focus good_Put hnd (pm_at mmPut xs k i hlt)
      clear hcl hps
      have hKc : K + ((1 + (1) : Nat) : Int) ≤ 1000000000 := hKb
      obtain ⟨rfl, hbe, f0, f1⟩ := openOPut ho
      have e0 : C[off + i * 2]? = some (.int .i64 xs[i].1) := hcells 0 (by decide)
      have e1 : C[off + i * 2 + 1]? = some (.string xs[i].2) := hcells 1 (by decide)
      have c0_0 : wr.cell? ⟨g, off + i * 2, none⟩ = some (.int .i64 xs[i].1) := by rw [hbk.cell]; exact e0
      have z0_0 : wr.frozen? ⟨g, off + i * 2, none⟩ = false := hbk.frozen _
      have c0_1 : wr.cell? ⟨g, off + i * 2 + 1, none⟩ = some (.string xs[i].2) := by rw [hbk.cell]; exact e1
      have z0_1 : wr.frozen? ⟨g, off + i * 2 + 1, none⟩ = false := hbk.frozen _
      go_wp2_with fail
      have kb1 : Bk (wr.setCell ⟨g, off + i * 2, none⟩ (.int .i64 K)) g tid (C.setIfInBounds (off + i * 2) (.int .i64 K)) := (hbk.set (off + i * 2) (.int .i64 K))
      have on1 : Only bl w (wr.setCell ⟨g, off + i * 2, none⟩ (.int .i64 K)) := (hO.but (But.set _ g (off + i * 2) (.int .i64 K)) hgm)
      have bu1 : But g wr (wr.setCell ⟨g, off + i * 2, none⟩ (.int .i64 K)) := But.set _ g (off + i * 2) (.int .i64 K)
      have re1 : ∀ y, y < hi → y ≠ g → y ∉ b → (wr.setCell ⟨g, off + i * 2, none⟩ (.int .i64 K)).heap[y]? = wr.heap[y]? := fun y hy hyg hyb => (bu1.block y hyg)
      refine (c_markText _ _ (by omega) (by omega)).mono ?_
      rintro e w2 ⟨rfl, u2⟩
      have kb2 := kb1.up u2
      have on2 := on1.up u2
      have sz2 : hi ≤ w2.heap.size := Nat.le_trans hhi on2.size
      have re2 : ∀ y, y < hi → y ≠ g → y ∉ b → w2.heap[y]? = wr.heap[y]? := fun y hy hyg hyb => (u2.block y (Nat.lt_of_lt_of_le hy (Nat.le_trans hhi on1.size))).trans (re1 y hy hyg hyb)
      have c2_0 : w2.cell? ⟨g, off + i * 2, none⟩ = some (.int .i64 K) := by rw [kb2.cell]; exact set_same rfl e0
      have z2_0 : w2.frozen? ⟨g, off + i * 2, none⟩ = false := kb2.frozen _
      have c2_1 : w2.cell? ⟨g, off + i * 2 + 1, none⟩ = some (.string xs[i].2) := by rw [kb2.cell]; rw [set_ne (by omega)]; exact e1
      have z2_1 : w2.frozen? ⟨g, off + i * 2 + 1, none⟩ = false := kb2.frozen _
      clear u2
      go_wp2_with fail
      have kb3 : Bk (w2.setCell ⟨g, off + i * 2 + 1, none⟩ (.string (mtext (K + 1)))) g tid ((C.setIfInBounds (off + i * 2) (.int .i64 K)).setIfInBounds (off + i * 2 + 1) (.string (mtext (K + 1)))) := (kb2.set (off + i * 2 + 1) (.string (mtext (K + 1))))
      have on3 : Only bl w (w2.setCell ⟨g, off + i * 2 + 1, none⟩ (.string (mtext (K + 1)))) := (on2.but (But.set _ g (off + i * 2 + 1) (.string (mtext (K + 1)))) hgm)
      have bu3 : But g w2 (w2.setCell ⟨g, off + i * 2 + 1, none⟩ (.string (mtext (K + 1)))) := But.set _ g (off + i * 2 + 1) (.string (mtext (K + 1)))
      have re3 : ∀ y, y < hi → y ≠ g → y ∉ b → (w2.setCell ⟨g, off + i * 2 + 1, none⟩ (.string (mtext (K + 1)))).heap[y]? = wr.heap[y]? := fun y hy hyg hyb => (bu3.block y hyg).trans (re2 y hy hyg hyb)
      have hxm : (mmPut).mark xs[i] K = ((K), (mtext (K + 1))) := rfl
      have hown : shPut.own (w2.setCell ⟨g, off + i * 2 + 1, none⟩ (.string (mtext (K + 1)))) lo hi [.int .i64 K, .string (mtext (K + 1))] ((K), (mtext (K + 1))) b := by rw [hbe]; exact mkOPut (x := ((K), (mtext (K + 1)))) ⟨by omega, by omega⟩ (mtext_le (by omega))
      have hcell : ∀ j, j < shPut.size → ((C.setIfInBounds (off + i * 2) (.int .i64 K)).setIfInBounds (off + i * 2 + 1) (.string (mtext (K + 1))))[off + (i * shPut.size + j)]? = [.int .i64 K, .string (mtext (K + 1))][j]? := by
        intro j hj
        have hj' : j < 2 := hj
        by_cases hj0 : j = 0
        · subst hj0
          show ((C.setIfInBounds (off + i * 2) (.int .i64 K)).setIfInBounds (off + i * 2 + 1) (.string (mtext (K + 1))))[off + (i * 2 + 0)]? = some _
          rw [show off + (i * 2 + 0) = off + i * 2 by omega]
          rw [set_ne (by omega)]; exact set_same rfl e0
        by_cases hj1 : j = 1
        · subst hj1
          show ((C.setIfInBounds (off + i * 2) (.int .i64 K)).setIfInBounds (off + i * 2 + 1) (.string (mtext (K + 1))))[off + (i * 2 + 1)]? = some _
          rw [show off + (i * 2 + 1) = off + i * 2 + 1 by omega]
          exact set_same rfl (by rw [set_ne (by omega)]; exact e1)
        omega
      have hfar : ∀ p, (p < off + i * shPut.size ∨ off + i * shPut.size + shPut.size ≤ p) → ((C.setIfInBounds (off + i * 2) (.int .i64 K)).setIfInBounds (off + i * 2 + 1) (.string (mtext (K + 1))))[p]? = C[p]? := by
        intro p hp
        have hp' : p < off + i * 2 ∨ off + i * 2 + 2 ≤ p := hp
        rw [set_ne (by omega)]; rw [set_ne (by omega)]
      have hS2 := hput _ _ _ _ kb3 hcell hfar hown (fun y hy hyg hyb => re3 y (hS.in_ good_Put y hy).2 hyg hyb)
      have hpm : (pm mmPut xs k i).set i ((K), (mtext (K + 1))) = pm mmPut xs k (i + 1) := by rw [← hxm, HK.out]; exact pm_succ mmPut xs k i hlt
      rw [hpm] at hS2
      clear hpm hxm
      have hcn : ((mmPut).cnt xs[i] : Nat) = 1 + (1) := rfl
      have HK3 : Hid (K + 1 + 1 = k + psum (mmPut).cnt xs (i + 1)) := by unfold Hid; rw [← HK2.out, hcn]; omega
      have hk5 : K + 1 + 1 ≤ 1000000000 := by rw [hcn] at hKb; omega
      clear hcn
      go_roundw
      case rel => exact ⟨i + 1, K + 1 + 1, by omega, rfl, by go_num, HK3, by omega, hk5, hS2, on3⟩
      case measure => simp [intOf]; omega
    · have HE : Hid (K = k + ((mkL mmPut).cnt xs : Nat)) := by unfold Hid; rw [HK.out]; show _ = k + (((xs.map (mmPut).cnt).sum : Nat) : Int); rw [← psum_all (mmPut).cnt xs, show i = xs.length by omega]
      rw [pm_all mmPut xs k i (by omega)] at hS
      go_wp2_with fail
      go_ret
      exact MarkL.mk HE hS hO


set_option maxRecDepth 100000 in
set_option maxHeartbeats 4000000 in
theorem c_markDisk (cs : List Value) (x : TDisk) (k : Int) (lo hi : Nat) (bl : List Nat) (w : World) (h : shDisk.own w lo hi cs x bl) (hhi : hi ≤ w.heap.size) (hnd : bl.Nodup) (hk0 : 0 < k) (hk1 : k + (mmTDisk.cnt x : Nat) ≤ 1000000000) :
    Calls Try.prog 26 #[.agg cs.toArray, .int .i64 k] w (MarkV shDisk mmTDisk lo hi cs x k bl w) := by
  obtain ⟨x0, x1, x2⟩ := x
  have ho := openODisk h
  try dsimp only at ho
  obtain ⟨A1, c1, bl1, A2, c2, bl2, rfl, hbe, f0, f1, f2⟩ := ho
  clear h
  have hcn : mmTDisk.cnt (x0, x1, x2) = 0 + ((mkL mkS).cnt x1 + ((mkL mmPut).cnt x2)) := rfl
  rw [hcn] at hk1
  have HC := Lib.hid hcn; clear hcn
  have kb0 : Bk (w.alloc (.cells #[.int .i64 x0, .slice A1 x1.length c1, .slice A2 x2.length c2] 42)) w.heap.size 42 #[.int .i64 x0, .slice A1 x1.length c1, .slice A2 x2.length c2] := Bk.new _ _ _
  have on0 : Only bl w (w.alloc (.cells #[.int .i64 x0, .slice A1 x1.length c1, .slice A2 x2.length c2] 42)) := Only.of_up ((Up.refl _).alloc _)
  have hb1 : ∀ y ∈ bl1, y ∈ bl := by rw [hbe]; intro y hy; simp [hy]
  have hw1 : w.heap.size ∉ bl1 := fun hm => by have := (f1.in_ good_S _ hm).2; omega
  have s0_1 := f1.keep good_S (fun y hy => (Up.alloc (Up.refl w) (.cells #[.int .i64 x0, .slice A1 x1.length c1, .slice A2 x2.length c2] 42)).block y (Nat.lt_of_lt_of_le (f1.in_ good_S y hy).2 hhi))
  have hb2 : ∀ y ∈ bl2, y ∈ bl := by rw [hbe]; intro y hy; simp [hy]
  have hw2 : w.heap.size ∉ bl2 := fun hm => by have := (f2.in_ good_Put _ hm).2; omega
  have s0_2 := f2.keep good_Put (fun y hy => (Up.alloc (Up.refl w) (.cells #[.int .i64 x0, .slice A1 x1.length c1, .slice A2 x2.length c2] 42)).block y (Nat.lt_of_lt_of_le (f2.in_ good_Put y hy).2 hhi))
  rw [hbe] at hnd
  go_enter Try.func26, Try.ntmps26
  go_wp2_with fail
  have HN1 : (bl1).Nodup := by grind [List.nodup_append]
  refine (c_markStringS _ _ _ _ lo hi bl1 _ s0_1 (Nat.le_trans hhi on0.size) HN1 (by omega) (by omega)).mono ?_
  rintro e w1 ⟨rfl, t1, o1⟩
  have hgo1 : w.heap.size ∉ (bl1) := by exact hw1
  have kb1 := kb0.only o1 hgo1
  have on1 := on0.trans (o1.mono (fun y hy => by exact hb1 y hy))
  have s1_2 := s0_2.keep good_Put (fun y hy => o1.block y (Nat.lt_of_lt_of_le (s0_2.in_ good_Put y hy).2 (Nat.le_trans hhi on0.size)) (fun hm => by grind [List.nodup_append]))
  have g1_2 : w1.cell? ⟨w.heap.size, 2, none⟩ = some (.slice A2 x2.length c2) := kb1.cell 2
  clear o1
  go_wp2_with fail
  have HN2 : (bl2).Nodup := by grind [List.nodup_append]
  refine (c_markPutS _ _ _ _ lo hi bl2 _ s1_2 (Nat.le_trans hhi on1.size) HN2 (by omega) (by omega)).mono ?_
  rintro e w2 ⟨rfl, t2, o2⟩
  have hgo2 : w.heap.size ∉ (bl2) := by exact hw2
  have kb2 := kb1.only o2 hgo2
  have on2 := on1.trans (o2.mono (fun y hy => by exact hb2 y hy))
  have s2_1 := t1.keep good_S (fun y hy => o2.block y (Nat.lt_of_lt_of_le (t1.in_ good_S y hy).2 (Nat.le_trans hhi on1.size)) (fun hm => by grind [List.nodup_append]))
  clear o2
  go_wp2_with fail
  go_ret
  have HE : Hid (k + ((mkL mkS).cnt x1 : Nat) + ((mkL mmPut).cnt x2 : Nat) = k + (mmTDisk.cnt (x0, x1, x2) : Nat)) := by unfold Hid; rw [HC.out]; omega
  refine MarkV.mk HE ?_ on2
  rw [hbe]
  have hmk : mmTDisk.mark (x0, x1, x2) k = (x0, markL mkS x1 (k), markL mmPut x2 (k + ((mkL mkS).cnt x1 : Nat))) := by simp [mmTDisk, mkP, mk0, mkL]
  rw [hmk]
  have hfin : shDisk.own w2 lo hi _ (x0, markL mkS x1 (k), markL mmPut x2 (k + ((mkL mkS).cnt x1 : Nat))) _ := (mkO_P (a := shI) (x := (x0, markL mkS x1 (k), markL mmPut x2 (k + ((mkL mkS).cnt x1 : Nat)))) good_I ⟨⟨rfl, f0⟩, rfl⟩ (mkO_P (a := (shL shS)) (x := (markL mkS x1 (k), markL mmPut x2 (k + ((mkL mkS).cnt x1 : Nat)))) (good_L good_S) (SO.to_own (n := x1.length) (by first | rfl | exact markL_len _ _ _) s2_1) (SO.to_own (n := x2.length) (by first | rfl | exact markL_len _ _ _) t2)))
  simpa using hfin


set_option maxRecDepth 100000 in
set_option maxHeartbeats 4000000 in
theorem c_markJournal (cs : List Value) (x : TJournal) (k : Int) (lo hi : Nat) (bl : List Nat) (w : World) (h : shJournal.own w lo hi cs x bl) (hhi : hi ≤ w.heap.size) (hnd : bl.Nodup) (hk0 : 0 < k) (hk1 : k + (mmTJournal.cnt x : Nat) ≤ 1000000000) :
    Calls Try.prog 42 #[.agg cs.toArray, .int .i64 k] w (MarkV shJournal mmTJournal lo hi cs x k bl w) := by
  obtain ⟨⟨x0, x1, x2⟩, x3, x4, x5, x6⟩ := x
  have ho := openOJournal h
  try dsimp only at ho
  obtain ⟨A1, c1, bl1, A2, c2, bl2, rfl, hbe, f0, f1, f2, f3, f4, f5, f6⟩ := ho
  clear h
  have hcn : mmTJournal.cnt ((x0, x1, x2), x3, x4, x5, x6) = mmTDisk.cnt (x0, x1, x2) + (0 + (0 + (0 + (0)))) := rfl
  rw [hcn] at hk1
  have HC := Lib.hid hcn; clear hcn
  have kb0 : Bk (w.alloc (.cells #[.int .i64 x0, .slice A1 x1.length c1, .slice A2 x2.length c2, .int .i64 x3, .int .i64 x4, .int .i64 x5, .int .i64 x6] 63)) w.heap.size 63 #[.int .i64 x0, .slice A1 x1.length c1, .slice A2 x2.length c2, .int .i64 x3, .int .i64 x4, .int .i64 x5, .int .i64 x6] := Bk.new _ _ _
  have on0 : Only bl w (w.alloc (.cells #[.int .i64 x0, .slice A1 x1.length c1, .slice A2 x2.length c2, .int .i64 x3, .int .i64 x4, .int .i64 x5, .int .i64 x6] 63)) := Only.of_up ((Up.refl _).alloc _)
  have hb1 : ∀ y ∈ bl1, y ∈ bl := by rw [hbe]; intro y hy; simp [hy]
  have hw1 : w.heap.size ∉ bl1 := fun hm => by have := (f1.in_ good_S _ hm).2; omega
  have s0_1 := f1.keep good_S (fun y hy => (Up.alloc (Up.refl w) (.cells #[.int .i64 x0, .slice A1 x1.length c1, .slice A2 x2.length c2, .int .i64 x3, .int .i64 x4, .int .i64 x5, .int .i64 x6] 63)).block y (Nat.lt_of_lt_of_le (f1.in_ good_S y hy).2 hhi))
  have hb2 : ∀ y ∈ bl2, y ∈ bl := by rw [hbe]; intro y hy; simp [hy]
  have hw2 : w.heap.size ∉ bl2 := fun hm => by have := (f2.in_ good_Put _ hm).2; omega
  have s0_2 := f2.keep good_Put (fun y hy => (Up.alloc (Up.refl w) (.cells #[.int .i64 x0, .slice A1 x1.length c1, .slice A2 x2.length c2, .int .i64 x3, .int .i64 x4, .int .i64 x5, .int .i64 x6] 63)).block y (Nat.lt_of_lt_of_le (f2.in_ good_Put y hy).2 hhi))
  rw [hbe] at hnd
  go_enter Try.func42, Try.ntmps42
  go_wp2_with fail
  have HN0 : (bl1 ++ bl2).Nodup := by grind [List.nodup_append]
  refine (c_markDisk [.int .i64 x0, .slice A1 x1.length c1, .slice A2 x2.length c2] (x0, x1, x2) _ lo hi (bl1 ++ bl2) _ (mkODisk (x := (x0, x1, x2)) f0 s0_1 s0_2) (Nat.le_trans hhi on0.size) HN0 (by omega) (by omega)).mono ?_
  rintro e w1 ⟨rfl, t1, o1⟩
  have hgo1 : w.heap.size ∉ (bl1 ++ bl2) := by simp only [List.mem_append]; grind
  have kb1 := kb0.only o1 hgo1
  have on1 := on0.trans (o1.mono (fun y hy => by simp only [List.mem_append] at hy; grind))
  have q1 := t1
  have g1_1 : w1.cell? ⟨w.heap.size, 1, none⟩ = some (.slice A1 x1.length c1) := kb1.cell 1
  have g1_2 : w1.cell? ⟨w.heap.size, 2, none⟩ = some (.slice A2 x2.length c2) := kb1.cell 2
  have g1_3 : w1.cell? ⟨w.heap.size, 3, none⟩ = some (.int .i64 x3) := kb1.cell 3
  have g1_4 : w1.cell? ⟨w.heap.size, 4, none⟩ = some (.int .i64 x4) := kb1.cell 4
  have g1_5 : w1.cell? ⟨w.heap.size, 5, none⟩ = some (.int .i64 x5) := kb1.cell 5
  have g1_6 : w1.cell? ⟨w.heap.size, 6, none⟩ = some (.int .i64 x6) := kb1.cell 6
  clear o1
  go_wp2_with fail
  go_ret
  have HE : Hid (k + (mmTDisk.cnt (x0, x1, x2) : Nat) = k + (mmTJournal.cnt ((x0, x1, x2), x3, x4, x5, x6) : Nat)) := by unfold Hid; rw [HC.out]; omega
  refine MarkV.mk HE ?_ on1
  rw [hbe]
  have hmk : mmTJournal.mark ((x0, x1, x2), x3, x4, x5, x6) k = (mmTDisk.mark (x0, x1, x2) (k), x3, x4, x5, x6) := by simp [mmTJournal, mkP, mk0, mkL]
  rw [hmk]
  have hfin : shJournal.own w1 lo hi _ (mmTDisk.mark (x0, x1, x2) (k), x3, x4, x5, x6) _ := (mkO_P (a := shDisk) (x := (mmTDisk.mark (x0, x1, x2) (k), x3, x4, x5, x6)) good_Disk t1 (mkO_P (a := shI) (x := (x3, x4, x5, x6)) good_I ⟨⟨rfl, f3⟩, rfl⟩ (mkO_P (a := shI) (x := (x4, x5, x6)) good_I ⟨⟨rfl, f4⟩, rfl⟩ (mkO_P (a := shI) (x := (x5, x6)) good_I ⟨⟨rfl, f5⟩, rfl⟩ ⟨⟨rfl, f6⟩, rfl⟩))))
  simpa using hfin

end Go.Proofs.Ytafabcabffeikaa
