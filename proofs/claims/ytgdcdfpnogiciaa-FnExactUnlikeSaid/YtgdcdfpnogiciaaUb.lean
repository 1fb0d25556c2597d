/-
  The reference's Unlike.
-/
import Derived.Test.YtgdcdfpnogiciaaUa
import Derived.Test.YtgdcdfpnogiciaaUs
import Derived.Test.YtgdcdfpnogiciaaSb
import Derived.Test.YtgdcdfpnogiciaaFun
import Derived.Deep.RegionHeld3
namespace Go.Proofs.Ytgdcdfpnogiciaa
open Go.RowKit
set_option linter.unusedVariables false
set_option linter.unusedSimpArgs false

/-- The place of an id's first slot; -1: there is none. -/
def AtN (S : List TSlot) (id n : Int) : Prop := (n = -1 ∧ NoSlot S id) ∨ ∃ i : Nat, n = (i : Int) ∧ FirstAt S id i
theorem atN_ex (S : List TSlot) (id : Int) : ∃ n, AtN S id n := by
  rcases first_cases S id with h | ⟨i, h⟩
  · exact ⟨-1, .inl ⟨rfl, h⟩⟩
  · exact ⟨i, .inr ⟨i, rfl, h⟩⟩
theorem atN_first {S : List TSlot} {id n : Int} {k : Nat} (h : AtN S id n) (k1 : FirstAt S id k) : n = (k : Int) := by
  rcases h with ⟨rfl, h⟩ | ⟨i, rfl, h⟩
  · obtain ⟨a, b, _⟩ := k1
    exact absurd b (h k a)
  · rw [first_uniq h k1]
theorem atN_no {S : List TSlot} {id n : Int} (h : AtN S id n) (k1 : NoSlot S id) : n = -1 := by
  rcases h with ⟨rfl, h⟩ | ⟨i, rfl, a, b, _⟩
  · rfl
  · exact absurd b (k1 i a)
set_option maxRecDepth 100000 in
set_option maxHeartbeats 4000000 in
theorem c_l16AtV (v : Value) (y : TBtree) (id n : Int) (hn : AtN y.2 id n) (w : World) (h : AV shBtree w v y) : Calls Try.prog 42 #[v, .int .i64 id] w (RetV (.int .i64 n) w) := by
  obtain ⟨cs, rfl, h⟩ := h
  obtain ⟨r, x⟩ := y
  have ho := openBtree h
  dsimp only at ho hn
  obtain ⟨A0, c0, rfl, br, b00⟩ := ho
  clear h
  have HN := Lib.hid hn; clear hn
  have hlen := b00.len_le
  have kT0 := Bk.new w 37 #[.int .i64 r, .slice A0 x.length c0]
  have uu0 : Up w (w.alloc (.cells #[.int .i64 r, .slice A0 x.length c0] 37)) := (Up.refl w).alloc _
  go_enter Try.func42, Try.ntmps42
  go_wp2_with fail
  go_loopw [5] (fun i wr => ∃ k : Nat, k ≤ x.length ∧ i = .int .i64 k ∧ Hid (∀ (j : Nat) (hj : j < x.length), j < k → x[j].1 ≠ id) ∧ wr = (w.alloc (.cells #[.int .i64 r, .slice A0 x.length c0] 37))) (fun i _ => x.length - (intOf i).toNat)
  case atStart => exact ⟨0, Nat.zero_le _, rfl, Lib.hid (fun j hj h1 => absurd h1 (by omega)), rfl⟩
  case round =>
    obtain ⟨k, hk, rfl, HB, rfl⟩ := hrel
    generalize (w.alloc (.cells #[.int .i64 r, .slice A0 x.length c0] 37)) = W0 at kT0 uu0 ⊢
    have gT : W0.cell? ⟨w.heap.size, 1, none⟩ = some (.slice A0 x.length c0) := kT0.cell 1
    by_cases hlt : k < x.length
    · obtain ⟨g, off, A2, c2, A3, c3, A4, c4, hA, _, hgl, hc0, hc1, hc2, hc3, hc4, b0, b2, b3, b4, _⟩ := atSlot (b00.up good_Slot uu0) hlt
      subst hA
      clear hc1 hc2 hc3 hc4 b2 b3 b4
      by_cases e : x[k].1 = id
      · have he : (x[k].1 == id) = true := beq_iff_eq.2 e
        have HE := Lib.hid (atN_first HN.out ⟨hlt, e, HB.out⟩)
        clear e
        go_wp2_with fail
        go_ret
        exact ⟨by rw [HE.out] <;> rfl, uu0⟩
      · have he : (x[k].1 == id) = false := beq_eq_false_iff_ne.2 e
        have HN2 : Hid (∀ (j : Nat) (hj : j < x.length), j < k + 1 → x[j].1 ≠ id) := Lib.hid (fun j hj h1 => by
          by_cases q : j = k
          · subst q; exact e
          · exact HB.out j hj (by omega))
        have HE := Lib.hid e
        clear e
        go_wp2_with fail
        go_roundw
        case rel => exact ⟨k + 1, by omega, by go_num, HN2, by first | rfl | trivial⟩
        case measure => simp [intOf]; omega
    · have HE := Lib.hid (atN_no HN.out (fun j hj => HB.out j hj (by omega)))
      go_wp2_with fail
      go_ret
      exact ⟨by rw [HE.out] <;> rfl, uu0⟩

/-- What l16Other hands back: the ids of out and the unlike ones, in order. -/
def OtherP (S T : List TSlot) (l : List Int) (w : World) (e : Ending) (w' : World) : Prop :=
  ∃ (D : Option Addr) (d : Nat) (O : List Int), e = .returned (.slice D O.length d) ∧ SRW shI w' D d O ∧ O.Pairwise (· < ·) ∧ (∀ x, x ∈ O ↔ (x ∈ l ∨ DiffTo S T S.length x)) ∧ O.length ≤ l.length + S.length ∧ Up w w'
set_option maxRecDepth 100000 in
set_option maxHeartbeats 16000000 in
theorem c_l16Other (v u : Value) (x y : TBtree) (l : List Int) (A : Option Addr) (c : Nat) (w : World) (h : AV shBtree w v x) (k : AV shBtree w u y) (hl : SRW shI w A c l) (hs : l.Pairwise (· < ·)) (hx : x.2.length ≤ 1048576) (hln : l.length ≤ 1048576) :
    Calls Try.prog 27 #[v, u, .slice A l.length c] w (OtherP x.2 y.2 l w) := by
  obtain ⟨cs, rfl, h⟩ := h
  obtain ⟨xr, S⟩ := x
  have ho := openBtree h
  dsimp only at ho hx
  obtain ⟨A0, c0, rfl, br, b0⟩ := ho
  obtain ⟨ds, rfl, k⟩ := k
  obtain ⟨yr, T⟩ := y
  have ko := openBtree k
  dsimp only at ko ⊢
  obtain ⟨B0, d0, rfl, er, e0⟩ := ko
  have lenS := b0.len_le
  have lenT := e0.len_le
  have xav : ∀ W, Up w W → AV shBtree W (.agg #[.int .i64 xr, .slice A0 S.length c0]) (xr, S) := fun W hW => AV.up good_Btree ⟨_, rfl, h⟩ hW
  have yav : ∀ W, Up w W → AV shBtree W (.agg #[.int .i64 yr, .slice B0 T.length d0]) (yr, T) := fun W hW => AV.up good_Btree ⟨_, rfl, k⟩ hW
  have XAV := Lib.hid xav; have YAV := Lib.hid yav
  clear xav yav h k
  have kx0 : Bk ((w.alloc (.cells #[.int .i64 xr, .slice A0 S.length c0] 37)).alloc (.cells #[.int .i64 yr, .slice B0 T.length d0] 37)) w.heap.size 37 #[.int .i64 xr, .slice A0 S.length c0] := (Bk.new _ _ _).alloc _
  have ky0 : Bk ((w.alloc (.cells #[.int .i64 xr, .slice A0 S.length c0] 37)).alloc (.cells #[.int .i64 yr, .slice B0 T.length d0] 37)) (w.heap.size + 1) 37 #[.int .i64 yr, .slice B0 T.length d0] := by simpa using Bk.new (w.alloc (.cells #[.int .i64 xr, .slice A0 S.length c0] 37)) 37 #[.int .i64 yr, .slice B0 T.length d0]
  have uu0 : Up w ((w.alloc (.cells #[.int .i64 xr, .slice A0 S.length c0] 37)).alloc (.cells #[.int .i64 yr, .slice B0 T.length d0] 37)) := ((Up.refl _).alloc _).alloc _
  have HS := Lib.hid hs; clear hs
  go_enter Try.func27, Try.ntmps27
  go_wp2_with fail
  go_loopw [7, 2] (fun i out wr => ∃ (k : Nat) (D : Option Addr) (d : Nat) (O : List Int), k ≤ S.length ∧ i = .int .i64 k ∧ out = .slice D O.length d ∧ O.length ≤ l.length + k ∧ SRW shI wr D d O ∧ Hid (O.Pairwise (· < ·)) ∧ Hid (∀ x, x ∈ O ↔ (x ∈ l ∨ DiffTo S T k x)) ∧ Bk wr w.heap.size 37 #[.int .i64 xr, .slice A0 S.length c0] ∧ Bk wr (w.heap.size + 1) 37 #[.int .i64 yr, .slice B0 T.length d0] ∧ Up w wr) (fun i _ _ => S.length - (intOf i).toNat)
  case atStart => exact ⟨0, A, c, l, Nat.zero_le _, rfl, rfl, by omega, hl.up good_I uu0, HS, fun x => ⟨.inl, fun hh => hh.resolve_right (diffTo_zero S T x)⟩, kx0, ky0, uu0⟩
  case round =>
    obtain ⟨k, D, d, O, hk, rfl, rfl, hOl, hO, hOs, hOm, kx, ky, hu⟩ := hrel
    have gx0 : wr.cell? ⟨w.heap.size, 0, none⟩ = some (.int .i64 xr) := kx.cell 0
    have gx : wr.cell? ⟨w.heap.size, 1, none⟩ = some (.slice A0 S.length c0) := kx.cell 1
    have gy0 : wr.cell? ⟨w.heap.size + 1, 0, none⟩ = some (.int .i64 yr) := ky.cell 0
    have gy : wr.cell? ⟨w.heap.size + 1, 1, none⟩ = some (.slice B0 T.length d0) := ky.cell 1
    by_cases hlt : k < S.length
    · obtain ⟨g, off, A2, c2, A3, c3, A4, c4, rfl, _, hg1, hc0, hc1, hc2, hc3, hc4, bi, b2, b3, b4, _⟩ := atSlot (b0.up good_Slot hu) hlt
      obtain ⟨nT, hnT⟩ := atN_ex T S[k].1
      obtain ⟨nS, hnS⟩ := atN_ex S S[k].1
      have HT := Lib.hid hnT; have HSn := Lib.hid hnS
      clear hnT hnS
      go_wp2_with fail
      refine (c_l16AtV _ (yr, T) S[k].1 nT HT.out _ (YAV.out _ hu)).mono ?_
      rintro e w1 ⟨rfl, u1⟩
      have kx1 := kx.up u1
      have ky1 := ky.up u1
      have hu1 := hu.trans u1
      have hO1 := hO.up good_I u1
      have t0 := fun t : UpT w1 => cell_up t (kx1.cell 0 : w1.cell? ⟨w.heap.size, 0, none⟩ = some (.int .i64 xr))
      have t1 := fun t : UpT w1 => cell_up t (kx1.cell 1 : w1.cell? ⟨w.heap.size, 1, none⟩ = some (.slice (some ⟨g, off, none⟩) S.length c0))
      have t2 := fun t : UpT w1 => cell_up t (ky1.cell 1 : w1.cell? ⟨w.heap.size + 1, 1, none⟩ = some (.slice B0 T.length d0))
      have s1 := fun t : UpT w1 => cell_up t (u1.cell hg1 |>.trans hc1)
      have s2 := fun t : UpT w1 => cell_up t (u1.cell hg1 |>.trans hc2)
      have s3 := fun t : UpT w1 => cell_up t (u1.cell hg1 |>.trans hc3)
      have s4 := fun t : UpT w1 => cell_up t (u1.cell hg1 |>.trans hc4)
      clear gx0 gx gy0 gy hc0 hc1 hc2 hc3 hc4 hO kx ky
      by_cases hf : nS = (k : Int)
      · have hfb : (nS == (k : Int)) = true := by simpa using hf
        have hfa : FirstAt S S[k].1 k := by
          rcases HSn.out with ⟨e1, _⟩ | ⟨i, e1, e2⟩
          · omega
          · obtain rfl : i = k := by omega
            exact e2
        have HFA := Lib.hid hfa
        obtain ⟨_, hpS⟩ := pgF_first S _ k hfa
        have HPS := Lib.hid hpS
        clear hfa hpS
        rcases HT.out with ⟨rfl, hno⟩ | ⟨j, rfl, hj⟩
        · -- the other one has none
          have hd : pgF S S[k].1 ≠ pgF T S[k].1 := by rw [HPS.out, pgF_no T _ hno]; simp
          have hN : Hid (∀ x, x ∈ putI O S[k].1 ↔ (x ∈ l ∨ DiffTo S T (k + 1) x)) := by
            unfold Hid
            intro x
            rw [putI_mem, hOm.out, diffTo_yes hlt HFA.out hd, or_assoc]
          have hP := Lib.hid (putI_sorted O S[k].1 hOs.out)
          have hLn := putI_len O S[k].1
          clear hno hd
          have hlt0 : (-1 : Int) < 0 := by decide
          subst hf
          go_wp2_with fail
          refine wp_region_up (by kernel_rfl) (by kernel_rfl) ?_
          repeat (go_big_quiet_step ((go_at_call 42; exact up_call (c_l16AtV _ (xr, S) S[k].1 _ HSn.out _ (XAV.out _ (hu1.trans (UpT.up _)))) (UpT.up _))))
          refine wpQuiet_nil ?_
          rintro _ ⟨⟨w2, u2⟩, rfl⟩
          go_wp2_with fail
          refine (c_l00Put O S[k].1 D d _ (hO1.up good_I u2) bi (by omega)).mono ?_
          rintro e w3 ⟨D3, d3, bl3, rfl, o3, nd3, u3⟩
          have hu3 := (hu1.trans u2).trans u3
          have hsr : SRW shI w3 D3 d3 (putI O S[k].1) := SR.of_own good_I o3
          have kx3 := (kx1.up u2).up u3
          have ky3 := (ky1.up u2).up u3
          go_wp2_with fail
          go_roundw
          case rel => exact ⟨k + 1, D3, d3, putI O S[k].1, by omega, by go_num, rfl, by omega, hsr, hP, hN, kx3, ky3, hu3⟩
          case measure => simp [intOf]; omega
        · obtain ⟨hjl, hpT⟩ := pgF_first T _ j hj
          obtain ⟨g', off', B2, d2, B3, d3, B4, d4, rfl, _, hg2, hd0, hd1, hd2, hd3, hd4, ei, e2, e3, e4, _⟩ := atSlot (e0.up good_Slot hu1) hjl
          have r1 := fun t : UpT w1 => cell_up t hd1
          have r2 := fun t : UpT w1 => cell_up t hd2
          have r3 := fun t : UpT w1 => cell_up t hd3
          have r4 := fun t : UpT w1 => cell_up t hd4
          have hj0 : decide ((j : Int) < 0) = false := decide_eq_false (by omega)
          have hj1 : ¬ (j : Int) < 0 := by omega
          have hj2 : (0 : Int) ≤ (j : Int) := by omega
          have hj3 : (j : Int) < (T.length : Int) := by omega
          subst hf
          by_cases he : S[k].2 = T[j].2
          · have hN : Hid (∀ x, x ∈ O ↔ (x ∈ l ∨ DiffTo S T (k + 1) x)) := by
              unfold Hid
              intro x
              rw [hOm.out, diffTo_no hlt (fun hh => hh.2 (by rw [HPS.out, hpT, he]))]
            have HE := Lib.hid he
            clear he hpT hd0 hd1 hd2 hd3 hd4
            go_wp2_with fail
            refine wp_region_up (by kernel_rfl) (by kernel_rfl) ?_
            repeat (go_big_quiet_step ((first
              | (go_at_call 42; exact up_call (c_l16AtV _ (xr, S) S[k].1 _ HSn.out _ (XAV.out _ (hu1.trans (UpT.up _)))) (UpT.up _))
              | (go_at_call 43; exact up_eqt (c_specSamePage _ _ S[k].2 T[j].2 _ (AV.up good_Page ⟨_, rfl, mkPage (x := S[k].2) b2 b3 b4⟩ (u1.trans (UpT.up _))) (AV.up good_Page ⟨_, rfl, mkPage (x := T[j].2) e2 e3 e4⟩ (UpT.up _))) HE.out (UpT.up _)))))
            refine wpQuiet_nil ?_
            rintro _ ⟨⟨w2, u2⟩, rfl⟩
            have hu2 := hu1.trans u2
            have hO2 := hO1.up good_I u2
            have kx2 := kx1.up u2
            have ky2 := ky1.up u2
            go_wp2_with fail
            go_roundw
            case rel => exact ⟨k + 1, D, d, O, by omega, by go_num, rfl, by omega, hO2, hOs, hN, kx2, ky2, hu2⟩
            case measure => simp [intOf]; omega
          · have hd : pgF S S[k].1 ≠ pgF T S[k].1 := by rw [HPS.out, hpT]; simpa using he
            have hN : Hid (∀ x, x ∈ putI O S[k].1 ↔ (x ∈ l ∨ DiffTo S T (k + 1) x)) := by
              unfold Hid
              intro x
              rw [putI_mem, hOm.out, diffTo_yes hlt HFA.out hd, or_assoc]
            have hP := Lib.hid (putI_sorted O S[k].1 hOs.out)
            have hLn := putI_len O S[k].1
            have HE := Lib.hid he
            clear he hpT hd0 hd1 hd2 hd3 hd4 hd
            go_wp2_with fail
            refine wp_region_up (by kernel_rfl) (by kernel_rfl) ?_
            repeat (go_big_quiet_step ((first
              | (go_at_call 42; exact up_call (c_l16AtV _ (xr, S) S[k].1 _ HSn.out _ (XAV.out _ (hu1.trans (UpT.up _)))) (UpT.up _))
              | (go_at_call 43; exact up_eqf (c_specSamePage _ _ S[k].2 T[j].2 _ (AV.up good_Page ⟨_, rfl, mkPage (x := S[k].2) b2 b3 b4⟩ (u1.trans (UpT.up _))) (AV.up good_Page ⟨_, rfl, mkPage (x := T[j].2) e2 e3 e4⟩ (UpT.up _))) HE.out (UpT.up _)))))
            refine wpQuiet_nil ?_
            rintro _ ⟨⟨w2, u2⟩, rfl⟩
            go_wp2_with fail
            refine (c_l00Put O S[k].1 D d _ (hO1.up good_I u2) bi (by omega)).mono ?_
            rintro e w3 ⟨D3, d3', bl3, rfl, o3, nd3, u3⟩
            have hu3 := (hu1.trans u2).trans u3
            have hsr : SRW shI w3 D3 d3' (putI O S[k].1) := SR.of_own good_I o3
            have kx3 := (kx1.up u2).up u3
            have ky3 := (ky1.up u2).up u3
            go_wp2_with fail
            go_roundw
            case rel => exact ⟨k + 1, D3, d3', putI O S[k].1, by omega, by go_num, rfl, by omega, hsr, hP, hN, kx3, ky3, hu3⟩
            case measure => simp [intOf]; omega
      · have hfb : (nS == (k : Int)) = false := by simpa using hf
        have hN : Hid (∀ x, x ∈ O ↔ (x ∈ l ∨ DiffTo S T (k + 1) x)) := by
          unfold Hid
          intro x
          rw [hOm.out, diffTo_no hlt (fun hh => hf (atN_first HSn.out hh.1))]
        clear hf
        go_wp2_with fail
        refine wp_region_up (by kernel_rfl) (by kernel_rfl) ?_
        repeat (go_big_quiet_step ((go_at_call 42; exact up_call (c_l16AtV _ (xr, S) S[k].1 _ HSn.out _ (XAV.out _ (hu1.trans (UpT.up _)))) (UpT.up _))))
        refine wpQuiet_nil ?_
        rintro _ ⟨⟨w2, u2⟩, rfl⟩
        have hu2 := hu1.trans u2
        have hO2 := hO1.up good_I u2
        have kx2 := kx1.up u2
        have ky2 := ky1.up u2
        go_wp2_with fail
        go_roundw
        case rel => exact ⟨k + 1, D, d, O, by omega, by go_num, rfl, by omega, hO2, hOs, hN, kx2, ky2, hu2⟩
        case measure => simp [intOf]; omega
    · obtain rfl : k = S.length := by omega
      go_wp2_with fail
      go_ret
      exact ⟨D, d, O, rfl, hO, hOs.out, hOm.out, hOl, hu⟩

set_option maxRecDepth 100000 in
set_option maxHeartbeats 4000000 in
theorem cs_Unlike (v0 : Value) (x0 : TBtree) (v1 : Value) (x1 : TBtree) (w : World) (h0 : AV shBtree w v0 x0) (hn0 : shBtree.sz x0 ≤ 1048576) (h1 : AV shBtree w v1 x1) (hn1 : shBtree.sz x1 ≤ 1048576) : Calls Try.prog 11 #[v0, v1] w (RpL shI (unlikeL x0.2 x1.2) w) := by
  obtain ⟨cs, rfl, h⟩ := h0
  obtain ⟨xr, S⟩ := x0
  have hxS : S.length ≤ 1048576 := by
    have : shBtree.sz (xr, S) = 0 + (shL shSlot).sz S := rfl
    have h2 : (shL shSlot).sz S = S.length + (S.map shSlot.sz).sum := rfl
    omega
  have ho := openBtree h
  dsimp only at ho
  obtain ⟨A0, c0, rfl, br, b0⟩ := ho
  obtain ⟨ds, rfl, k⟩ := h1
  obtain ⟨yr, T⟩ := x1
  have hxT : T.length ≤ 1048576 := by
    have : shBtree.sz (yr, T) = 0 + (shL shSlot).sz T := rfl
    have h2 : (shL shSlot).sz T = T.length + (T.map shSlot.sz).sum := rfl
    omega
  have ko := openBtree k
  dsimp only at ko ⊢
  obtain ⟨B0, d0, rfl, er, e0⟩ := ko
  have xav : ∀ W, Up w W → AV shBtree W (.agg #[.int .i64 xr, .slice A0 S.length c0]) (xr, S) := fun W hW => AV.up good_Btree ⟨_, rfl, h⟩ hW
  have yav : ∀ W, Up w W → AV shBtree W (.agg #[.int .i64 yr, .slice B0 T.length d0]) (yr, T) := fun W hW => AV.up good_Btree ⟨_, rfl, k⟩ hW
  have XAV := Lib.hid xav; have YAV := Lib.hid yav
  clear xav yav h k hn0 hn1
  have kx0 : Bk ((w.alloc (.cells #[.int .i64 xr, .slice A0 S.length c0] 37)).alloc (.cells #[.int .i64 yr, .slice B0 T.length d0] 37)) w.heap.size 37 #[.int .i64 xr, .slice A0 S.length c0] := (Bk.new _ _ _).alloc _
  have ky0 : Bk ((w.alloc (.cells #[.int .i64 xr, .slice A0 S.length c0] 37)).alloc (.cells #[.int .i64 yr, .slice B0 T.length d0] 37)) (w.heap.size + 1) 37 #[.int .i64 yr, .slice B0 T.length d0] := by simpa using Bk.new (w.alloc (.cells #[.int .i64 xr, .slice A0 S.length c0] 37)) 37 #[.int .i64 yr, .slice B0 T.length d0]
  have uu0 : Up w ((w.alloc (.cells #[.int .i64 xr, .slice A0 S.length c0] 37)).alloc (.cells #[.int .i64 yr, .slice B0 T.length d0] 37)) := ((Up.refl _).alloc _).alloc _
  -- the two calls, one in the other
  have fin : ∀ (O1 O2 : List Int), O1.Pairwise (· < ·) → (∀ x, x ∈ O1 ↔ (x ∈ ([] : List Int) ∨ DiffTo S T S.length x)) → O2.Pairwise (· < ·) → (∀ x, x ∈ O2 ↔ (x ∈ O1 ∨ DiffTo T S T.length x)) → O2 = unlikeL S T := fun O1 O2 _ h1 h2 h3 => unlike_eq h2 fun x => by
    rw [h3, h1, diffTo_all (Nat.le_refl _), diffTo_all (Nat.le_refl _)]
    simp only [List.not_mem_nil, false_or]
    constructor
    · rintro (⟨_, h⟩ | ⟨_, h⟩)
      · exact h
      · exact fun e => h e.symm
    · intro h
      cases hs : pgF S x with
      | some p => exact .inl ⟨⟨p, rfl⟩, by rw [← hs]; exact h⟩
      | none =>
        cases ht : pgF T x with
        | some p => exact .inr ⟨⟨p, rfl⟩, by simp⟩
        | none => rw [hs, ht] at h; exact absurd rfl h
  have FIN := Lib.hid fin; clear fin
  go_enter Try.func11, Try.ntmps11
  go_wp2_with fail
  generalize ((w.alloc (.cells #[.int .i64 xr, .slice A0 S.length c0] 37)).alloc (.cells #[.int .i64 yr, .slice B0 T.length d0] 37)) = W0 at kx0 ky0 uu0 ⊢
  have hc : ∀ W' : World, Up W0 W' → W'.cell? ⟨w.heap.size, 0, none⟩ = some (.int .i64 xr) ∧ W'.cell? ⟨w.heap.size, 1, none⟩ = some (.slice A0 S.length c0) ∧ W'.cell? ⟨w.heap.size + 1, 0, none⟩ = some (.int .i64 yr) ∧ W'.cell? ⟨w.heap.size + 1, 1, none⟩ = some (.slice B0 T.length d0) := fun W' u => ⟨(kx0.up u).cell 0, (kx0.up u).cell 1, (ky0.up u).cell 0, (ky0.up u).cell 1⟩
  have HC := Lib.hid hc
  clear kx0 ky0 hc
  have U0 := Up.refl W0
  have hC1 : ∀ (W' : World) (D : Option Addr), Up W0 W' → Calls Try.prog 27 #[.agg #[.int .i64 xr, .slice A0 S.length c0], .agg #[.int .i64 yr, .slice B0 T.length d0], .slice D 0 0] W' (OtherP S T [] W') := fun W' D u => c_l16Other _ _ (xr, S) (yr, T) [] D 0 _ (XAV.out _ (uu0.trans u)) (YAV.out _ (uu0.trans u)) ⟨Nat.le_refl _, Nat.zero_le _, fun h => absurd h (by simp)⟩ List.Pairwise.nil hxS (by simp)
  have hC2 : ∀ (W' : World) (D : Option Addr) (d : Nat) (O : List Int), Up W0 W' → SRW shI W' D d O → O.Pairwise (· < ·) → O.length ≤ 1048576 → Calls Try.prog 27 #[.agg #[.int .i64 yr, .slice B0 T.length d0], .agg #[.int .i64 xr, .slice A0 S.length c0], .slice D O.length d] W' (OtherP T S O W') := fun W' D d O u ho hs hl => c_l16Other _ _ (yr, T) (xr, S) O D d _ (YAV.out _ (uu0.trans u)) (XAV.out _ (uu0.trans u)) ho hs hxT hl
  have C1 := Lib.hid hC1; have C2 := Lib.hid hC2
  clear hC1 hC2
  go_region_held3 (fun W : World => W.cell? ⟨w.heap.size, 0, none⟩ = some (.int .i64 xr) ∧ W.cell? ⟨w.heap.size, 1, none⟩ = some (.slice A0 S.length c0) ∧ W.cell? ⟨w.heap.size + 1, 0, none⟩ = some (.int .i64 yr) ∧ W.cell? ⟨w.heap.size + 1, 1, none⟩ = some (.slice B0 T.length d0))
    (first | with_reducible exact HC.out _ U0.drew | with_reducible exact HC.out _ (U0.alloc _).drew | with_reducible exact HC.out _ ua | with_reducible exact HC.out _ ub)
    (first
      | (go_at_call 27; (with_reducible refine (C1.out _ _ (U0.alloc _).drew).mono ?_); rintro e w1 ⟨Da, da, Oa, rfl, oa, soa, moa, loa, ua'⟩; have ua := (U0.alloc _).drew.trans ua'; simp only [List.length_nil, Nat.zero_add] at loa)
      | (go_at_call 27; (with_reducible refine (C2.out _ _ _ _ ua oa soa (Nat.le_trans loa hxS)).mono ?_); rintro e w2 ⟨Db, db, Ob, rfl, ob, sob, mob, lob, ub'⟩; have ub := ua.trans ub'))
  go_wp2_with fail
  go_ret
  have e0 := FIN.out Oa Ob soa moa sob mob
  subst e0
  exact ⟨Db, db, rfl, ob, uu0.trans ub⟩
end Go.Proofs.Ytgdcdfpnogiciaa
