/-
  PackTree: the reference's side.
-/
import Derived.Test.YtghphlfihakadaaGreatDoorLa
import Derived.Test.YtghphlfihakadaaGreatDoorR8
import Derived.Test.YtghphlfihakadaaGreatDoorKs
import Derived.Test.YtghphlfihakadaaGreatDoorKz
import Derived.Test.YtghphlfihakadaaGreatDoorTr
import Derived.Deep.RegionHeld3
namespace Go.Proofs.YtghphlfihakadaaGreatDoor
open Go.RowKit
set_option linter.unusedVariables false
set_option linter.unusedSimpArgs false

def keyN (n : TNode) : ByteArray := bs (keyOfL n.1 n.2.1)
def tailS (s : ByteArray) (m : Nat) : ByteArray := s.extract m s.size
def packStep (last : ByteArray) (n : TNode) : ByteArray := bs [UInt8.ofNat (sharedN last (keyN n))] ++ bs (shortL (tailS (keyN n) (sharedN last (keyN n)))) ++ bs (shortL n.2.2)
def lastK (x : TTree) (k : Nat) : ByteArray := if h : 0 < k ∧ k ≤ x.length then keyN (x[k - 1]'(by omega)) else ⟨#[]⟩
def packB (x : TTree) : Nat → List UInt8
  | 0 => leL x.length 1
  | k + 1 => packB x k ++ (if h : k < x.length then (packStep (lastK x k) x[k]).data.toList else [])
def packT (x : TTree) : ByteArray := if treeB x = true then bs (packB x x.length) else ⟨#[]⟩
theorem keyN_size (n : TNode) : (keyN n).size ≤ 237 := by unfold keyN; rw [bs_size]; exact keyOfL_len _ _
theorem lastK_zero (x : TTree) : lastK x 0 = ⟨#[]⟩ := by unfold lastK; rw [dif_neg (by omega)]
theorem lastK_succ (x : TTree) {k : Nat} (h : k < x.length) : lastK x (k + 1) = keyN x[k] := by
  unfold lastK
  rw [dif_pos (by omega)]
  simp
theorem lastK_size (x : TTree) (k : Nat) : (lastK x k).size ≤ 237 := by
  unfold lastK
  split
  · exact keyN_size _
  · have : (ByteArray.mk #[]).size = 0 := rfl
    omega
theorem tailS_size (s : ByteArray) (m : Nat) : (tailS s m).size ≤ s.size := by
  unfold tailS
  rw [ByteArray.size_extract]
  omega
theorem shortS2 (s : ByteArray) : (bs (shortL s)).size = s.size + 1 := by rw [bs_size]; simp [shortL]
theorem packStep_size (last : ByteArray) {n : TNode} (hv : n.2.2.size ≤ 64) : (packStep last n).size ≤ 310 := by
  have h1 := keyN_size n
  have h2 := tailS_size (keyN n) (sharedN last (keyN n))
  have h3 := shortS2 (tailS (keyN n) (sharedN last (keyN n)))
  have h4 := shortS2 n.2.2
  have h5 : (bs [UInt8.ofNat (sharedN last (keyN n))]).size = 1 := by rw [bs_size]; rfl
  unfold packStep
  rw [ByteArray.size_append, ByteArray.size_append]
  omega
theorem packB_succ (x : TTree) {k : Nat} (h : k < x.length) : packB x (k + 1) = packB x k ++ (packStep (lastK x k) x[k]).data.toList := by
  conv => lhs; unfold packB
  rw [dif_pos h]
theorem packB_len {x : TTree} (hx : TreeP x) : ∀ k, k ≤ x.length → (packB x k).length ≤ 1 + 310 * k
  | 0, _ => by unfold packB; rw [leL_len]; omega
  | k + 1, hk => by
    have ih := packB_len hx k (by omega)
    rw [packB_succ x (by omega), List.length_append]
    have hn := (hx.2 k (by omega)).1
    simp only [nodeB, Bool.and_eq_true, decide_eq_true_eq] at hn
    have := packStep_size (lastK x k) hn.2
    rw [slen]
    omega
theorem nodeB_val {n : TNode} (h : nodeB n = true) : n.2.2.size ≤ 64 := by
  simp only [nodeB, Bool.and_eq_true, decide_eq_true_eq] at h
  exact h.2
theorem row8_conv2 (w : World) (s : ByteArray) (hs : s.size ≤ 1048576) : ∃ (c : Nat) (W' : World), (convert 9 85 (.string s)).run Tryz.prog w = .ok (.slice (some ⟨w.heap.size, 0, none⟩) s.size c) W' ∧ Up w W' ∧ Row8 w.heap.size W' (some ⟨w.heap.size, 0, none⟩) c s.data.toList :=
  ⟨_, _, Lib.run_convert_string_bytes w 9 85 5 s (u := .string) Tryz.underlying9 Tryz.underlying85 Tryz.underlying5, bw_up w _ s, row8_new w s hs⟩
theorem up2 {a b : World} {c1 c2 : Addr} {v1 v2 : Value} (h : Up a b) (k : a.cell? c1 = some v1 ∧ a.cell? c2 = some v2) : b.cell? c1 = some v1 ∧ b.cell? c2 = some v2 :=
  ⟨(h.cell (cell_lt k.1)).trans k.1, (h.cell (cell_lt k.2)).trans k.2⟩
theorem bw2 {B : Nat} {a b : World} {g1 o1 g2 o2 : Nat} {v1 v2 : Value} (h : Below B a b) (h1 : g1 < B) (h2 : g2 < B) (k : a.cell? ⟨g1, o1, none⟩ = some v1 ∧ a.cell? ⟨g2, o2, none⟩ = some v2) : b.cell? ⟨g1, o1, none⟩ = some v1 ∧ b.cell? ⟨g2, o2, none⟩ = some v2 := by
  simp only [World.cell?] at k ⊢
  rw [h.block g1 h1, h.block g2 h2]
  exact k
set_option maxRecDepth 100000 in
set_option maxHeartbeats 16000000 in
theorem cs_PackTree (v : Value) (x : TTree) (w : World) (h : AV shTree w v x) (hn : shTree.sz x ≤ 1048576) :
    Calls Tryz.prog 19 #[v] w (RetV (.string (packT x)) w) := by
  have hvv := h
  obtain ⟨cs, rfl, h⟩ := h
  obtain ⟨A0, c0, rfl, b00⟩ := openTree h
  clear h
  have ka0 : Bk (w.alloc (.cells #[.slice A0 x.length c0] 36)) w.heap.size 36 #[.slice A0 x.length c0] := Bk.new _ _ _
  have u0 : Up w (w.alloc (.cells #[.slice A0 x.length c0] 36)) := (Up.refl w).alloc _
  have ct := fun W (hW : Up w W) => c_specTreeOk _ x W (hvv.up good_Tree hW) hn
  cases ht : treeB x
  · have HE : Hid (packT x = ⟨#[]⟩) := by unfold Hid packT; rw [if_neg (by rw [ht]; simp)]
    rw [ht] at ct
    have CT := Lib.hid ct
    clear ct ht
    go_enter Tryz.func19, Tryz.ntmps19
    go_wp2_with fail
    refine (CT.out _ u0).mono ?_
    rintro e w1 ⟨rfl, u1⟩
    go_wp2_with fail
    go_ret
    exact ⟨by rw [HE.out]; first | done | rfl, u0.trans u1⟩
  · have HE : Hid (packT x = bs (packB x x.length)) := by unfold Hid packT; rw [if_pos ht]
    have HP0 : TreeP x := of_decide_eq_true ht
    have HP : Hid (TreeP x) := HP0
    clear HP0
    have h120 := HP.out.1
    rw [ht] at ct
    have CT := Lib.hid ct
    have cb := fun W => c_l15Byte x.length W (by omega)
    have CB := Lib.hid cb
    have hkz : (bs [UInt8.ofNat x.length]).size = 1 := by rw [bs_size]; rfl
    have HK0 : Hid ((bs [UInt8.ofNat x.length]).data.toList = packB x 0) := rfl
    generalize bs [UInt8.ofNat x.length] = K0 at *
    clear ct cb ht
    go_enter Tryz.func19, Tryz.ntmps19
    go_wp2_with fail
    refine (CT.out _ u0).mono ?_
    rintro e w1 ⟨rfl, u1⟩
    have ka1 := ka0.up u1
    have ga1 : w1.cell? ⟨w.heap.size, 0, none⟩ = some (.slice A0 x.length c0) := ka1.cell 0
    go_wp2_with fail
    refine (CB.out _).mono ?_
    rintro e w2 ⟨rfl, u2⟩
    obtain ⟨c2, w3, hcv, u3, r3⟩ := row8_conv2 w2 K0 (by omega)
    have uu2 := (u0.trans u1).trans u2
    have ka3 := (ka1.up u2).up u3
    rw [hkz] at hcv
    obtain ⟨L0, hL0⟩ : ∃ L0, L0 = K0.data.toList := ⟨_, rfl⟩
    have hl0 : L0.length = 1 := by rw [hL0, slen]; exact hkz
    have HL0 : Hid (L0 = packB x 0) := by unfold Hid; rw [hL0, HK0.out]
    rw [← hL0] at r3
    have hlo2 := uu2.size
    have hka2 := (ka1.up u2).lt
    clear hL0 HK0 hkz
    go_wp2_with fail
    go_loopw [3, 4, 5] (fun b l i wr => ∃ (k : Nat) (D : Option Addr) (d : Nat) (L : List UInt8), k ≤ x.length ∧ i = .int .i64 k ∧ l = .string (lastK x k) ∧ b = .slice D L.length d ∧ Hid (L = packB x k) ∧ Row8 w2.heap.size wr D d L ∧ Below w2.heap.size w2 wr) (fun _ _ i _ => x.length - (intOf i).toNat)
    case atStart => exact ⟨0, _, c2, L0, Nat.zero_le _, rfl, by rw [lastK_zero], by rw [hl0], HL0, r3, u3⟩
    case round =>
      obtain ⟨k, D, d, L, hk, rfl, rfl, rfl, HL, row, hb2⟩ := hrel
      have hu : Up w wr := uu2.trans hb2
      have hsw := hb2.size
      have ka : Bk wr w.heap.size 36 #[.slice A0 x.length c0] := (ka1.up u2).below hb2 hka2
      have ga : wr.cell? ⟨w.heap.size, 0, none⟩ = some (.slice A0 x.length c0) := ka.cell 0
      by_cases hlt : k < x.length
      · have hv64 := nodeB_val (HP.out.2 k hlt).1
        have hLl : L.length ≤ 100000 := by rw [HL.out]; have := packB_len HP.out k hk; omega
        have HS : Hid (packB x (k + 1) = L ++ (packStep (lastK x k) x[k]).data.toList) := by unfold Hid; rw [packB_succ x hlt, HL.out]
        have HLK : Hid (lastK x (k + 1) = keyN x[k]) := lastK_succ x hlt
        obtain ⟨g', off', _, _, hA', _, hgl', _⟩ := atNode b00 hlt
        obtain ⟨g, off, A2, c2', rfl, _, hgl, hc0, hc1, hc2, b0, b1, b2, _⟩ := atNode (b00.up good_Node hu) hlt
        have hgw2 : g < w2.heap.size := by
          simp only [Option.some.injEq, Addr.mk.injEq] at hA'
          omega
        clear hA' hgl'
        have hky := keyN_size x[k]
        have hls := lastK_size x k
        have ck := fun W (hW : Up wr W) => c_specKeyOf x[k].1 x[k].2.1 A2 c2' W b0 (b1.up good_S hW)
        have ck' : ∀ W, Up wr W → Calls Tryz.prog 62 #[.string x[k].1, .slice A2 x[k].2.1.length c2'] W (RetV (.string (keyN x[k])) W) := ck
        have csh := fun W => c_specShared (lastK x k) (keyN x[k]) W (by omega) (by omega)
        have hm := sharedN_le (lastK x k) (keyN x[k])
        have htl := tailS_size (keyN x[k]) (sharedN (lastK x k) (keyN x[k]))
        have cl1 := fun W => c_l15Byte (sharedN (lastK x k) (keyN x[k])) W (by omega)
        have cl2 := fun W => c_l19Text (tailS (keyN x[k]) (sharedN (lastK x k) (keyN x[k]))) W (by omega)
        have cl3 := fun W => c_l19Text x[k].2.2 W (by omega)
        have z1 : (bs [UInt8.ofNat (sharedN (lastK x k) (keyN x[k]))]).size = 1 := by rw [bs_size]; rfl
        have z2 := shortS2 (tailS (keyN x[k]) (sharedN (lastK x k) (keyN x[k])))
        have z3 := shortS2 x[k].2.2
        have HPS : Hid (packStep (lastK x k) x[k] = bs [UInt8.ofNat (sharedN (lastK x k) (keyN x[k]))] ++ bs (shortL (tailS (keyN x[k]) (sharedN (lastK x k) (keyN x[k])))) ++ bs (shortL x[k].2.2)) := rfl
        generalize bs [UInt8.ofNat (sharedN (lastK x k) (keyN x[k]))] = F1 at *
        generalize bs (shortL (tailS (keyN x[k]) (sharedN (lastK x k) (keyN x[k])))) = F2 at *
        generalize bs (shortL x[k].2.2) = F3 at *
        have hTL : tailS (keyN x[k]) (sharedN (lastK x k) (keyN x[k])) = (keyN x[k]).extract (sharedN (lastK x k) (keyN x[k])) (keyN x[k]).size := rfl
        rw [hTL] at cl2 htl z2
        generalize hm' : sharedN (lastK x k) (keyN x[k]) = m at *
        generalize hKY : keyN x[k] = KY at *
        generalize hLA : lastK x k = LA at *
        generalize packStep LA x[k] = PS at *
        clear hTL hm' hKY hLA ck
        have g12 : ¬ 9223372036854775807 < F1.size + F2.size := by omega
        have g123 : ¬ 9223372036854775807 < (F1 ++ F2).size + F3.size := by rw [ByteArray.size_append]; omega
        have g123b : ¬ 9223372036854775807 < F1.size + F2.size + F3.size := by omega
        have hall : L.length + (F1 ++ F2 ++ F3).size ≤ 1073741824 := by rw [ByteArray.size_append, ByteArray.size_append]; omega
        have m0 : (0 : Int) ≤ (m : Int) := by omega
        have m1 : (m : Int) ≤ (KY.size : Int) := by omega
        have m2 : m ≤ KY.size := hm.2
        have CK := Lib.hid ck'
        have CSH := Lib.hid csh
        have CL1 := Lib.hid cl1
        have CL2 := Lib.hid cl2
        have CL3 := Lib.hid cl3
        clear ck' csh cl1 cl2 cl3 hm htl z1 z2 z3 HL hls hky
        have p0 := fun t : UpT wr => cell_up t ga
        have p1 := fun t : UpT wr => cell_up t hc0
        have p2 := fun t : UpT wr => cell_up t hc1
        have HC3 := Lib.hid hc2
        clear hc0 hc1 hc2
        go_wp2_with fail
        refine wp_region_up (by kernel_rfl) (by kernel_rfl) ?_
        repeat (go_big_quiet_step ((go_at_call 62; exact up_call (CK.out _ (UpT.up _)) (UpT.up _))))
        refine wpQuiet_nil ?_
        rintro w4 ⟨⟨w4', u4⟩, rfl⟩
        clear p0 p1 p2
        go_wp2_with fail
        refine (CSH.out _).mono ?_
        rintro e w5 ⟨rfl, u5⟩
        have u45 : Up wr w5 := u4.trans u5
        have hS5 : w5.cell? ⟨w.heap.size, 0, none⟩ = some (.slice (some ⟨g, off, none⟩) x.length c0) ∧ w5.cell? ⟨g, off + k * 3 + 2, none⟩ = some (.string x[k].2.2) := ⟨(u45.cell (cell_lt ga)).trans ga, (u45.cell (cell_lt HC3.out)).trans HC3.out⟩
        have HS5 := Lib.hid hS5
        clear hS5 ga
        have hbe5 : Below w2.heap.size w2 w5 := hb2.trans (Below.mono u45 hsw)
        have row5 := row.up u45
        have hse5 := hbe5.size
        go_wp2_with fail
        go_region_held3 (fun W => W.cell? ⟨w.heap.size, 0, none⟩ = some (.slice (some ⟨g, off, none⟩) x.length c0) ∧ W.cell? ⟨g, off + k * 3 + 2, none⟩ = some (.string x[k].2.2))
          (first | exact up2 (Up.refl w5).drew HS5.out | exact up2 v6 HS5.out | exact up2 v7 HS5.out | exact up2 v8 HS5.out | exact bw2 be9 hka2 hgw2 (up2 v8 HS5.out))
          (first
            | (go_at_call 60; (with_reducible refine (CL1.out _).mono ?_); rintro e w6 ⟨rfl, u6⟩; have v6 : Up w5 w6 := (Up.refl w5).drew.trans u6)
            | (go_at_call 61; (first | (with_reducible refine (CL2.out _).mono ?_); rintro e w7 ⟨rfl, u7⟩; have v7 : Up w5 w7 := v6.trans u7 | (with_reducible refine (CL3.out _).mono ?_); rintro e w8 ⟨rfl, u8⟩; have v8 : Up w5 w8 := v7.trans u8))
            | (refine step_app8 rfl _ _ rfl rfl rfl (row5.up v8) (Nat.le_trans hse5 v8.size) hall ?_; intro D9 d9 w9 r9 be9))
        have hbe9 : Below w2.heap.size w2 w9 := (hb2.trans (Below.mono u45 hsw)).trans ((Below.mono v8 hse5).trans be9)
        go_wp2_with fail
        go_roundw
        case rel => exact ⟨k + 1, D9, d9, L ++ (F1 ++ F2 ++ F3).data.toList, by omega, by go_num, by rw [HLK.out], by rw [List.length_append, slen]; first | done | (congr 1; simp only [ByteArray.size_append]; omega) | (simp [ByteArray.size_append]; done), by unfold Hid; rw [HS.out, HPS.out], r9, hbe9⟩
        case measure => simp [intOf]; omega
      · have ht : k = x.length := by omega
        subst ht
        have hcv := conv8 row
        have HL2 : Hid (bs L = packT x) := by unfold Hid; rw [HE.out, HL.out]
        go_wp2_with fail
        go_ret
        exact ⟨by rw [HL2.out]; first | done | rfl, hu⟩
end Go.Proofs.YtghphlfihakadaaGreatDoor
