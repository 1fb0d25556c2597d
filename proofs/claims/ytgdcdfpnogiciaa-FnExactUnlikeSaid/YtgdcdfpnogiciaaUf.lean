/-
  The program's Unlike: the walk.
-/
import Derived.Test.YtgdcdfpnogiciaaUe
import Derived.Test.YtgdcdfpnogiciaaUs
import Derived.Test.YtgdcdfpnogiciaaUt
import Derived.Test.YtgdcdfpnogiciaaSb
namespace Go.Proofs.Ytgdcdfpnogiciaa
open Go.RowKit Go.Maps Go.ChangeMaps Go.MapKept
set_option linter.unusedVariables false
set_option linter.unusedSimpArgs false
theorem eqb_false {b : Bool} {p : Prop} (h : b = true ↔ p) (hp : ¬ p) : b = false := by
  cases b
  · rfl
  · exact absurd (h.1 rfl) hp
/-- The append of a number behind a loop over a map. -/
theorem wpList_collect {ops : Array Oper} {rest : List Oper} {o : Oper} {a : Act} {Q : Exit → Act → World → Prop} {w W : World} {b r n : Nat} {D : DataW Unit} {L : List Value} {b2 n2 : Nat} {L2 : List Value} {F2 : Int → Option Value} {left : Lit → Bool} {cnt : Nat} {O : List Int} {A : Option Addr} {d : Nat} {bl : List Nat} {x : Int} {B : Nat}
    (hgd : o.guard = none) (so y : Operand) (ho : o.op = .call { callee := .builtin .append, args := #[so, y], argTypes := #[33, 33] })
    (R : LR w b r n D L b2 n2 L2 F2 left cnt O A d bl W) (hix : I64 x) (hl : O.length ≤ 4194304) (hB : B = W.heap.size)
    (hv : a.eval so = .slice A O.length d) (hx : a.eval y = .slice (some ⟨B, 0, none⟩) 1 1)
    (k : ∀ D1 d1 bl1 w9, LR w b r n D L b2 n2 L2 F2 left cnt (O ++ [x]) D1 d1 bl1 w9 → wpList Try.prog ops Q rest (a.put o.dst (.slice D1 (O.length + 1) d1)) w9) : wpList Try.prog ops Q (o :: rest) a (W.alloc (.cells #[.int .i64 x] 2)) := by
  obtain ⟨i0, hi0, hz0, hz1, hz2⟩ := info_parts cinfo_I
  subst hB
  have kq1 := Bk.new W 2 #[.int .i64 x]
  have uq1 := (Up.refl W).alloc (.cells #[.int .i64 x] 2)
  have ho1 : shI.own (W.alloc (.cells #[.int .i64 x] 2)) w.heap.size (W.alloc (.cells #[.int .i64 x] 2)).heap.size [.int .i64 x] x [] := ⟨⟨rfl, hix.1, hix.2⟩, rfl⟩
  have RQ := R.ups uq1
  have hx11 : (O.length + 1) * i0.bytes ≤ 140737488355328 := by rw [hz2]; omega
  have hx21 : O.length + 1 ≤ maxLen := by unfold maxLen; omega
  refine wpList_app good_I hgd so y _ _ 2 ho i0 _ Try.underlying33 hi0 hz0 hz1 (by rfl) (lo := w.heap.size) (xs := O) (ys := [x]) (bs := [[]]) (news := [.int .i64 x]) hv hx RQ.so (by simpa using RQ.nd) (Src.box (t := 2) Try.underlying33 kq1 (by simp [Value.oneCell']) (by rw [hz1]; rfl)) (Rowed.one good_I ho1) RQ.up.size hx11 hx21 ?_
  intro D1 d1 bl1 w9 hap1
  obtain ⟨so1, nd1, mem1, on1⟩ := hap1
  exact k D1 d1 bl1 w9 (RQ.app so1 nd1 (fun y hy => by simpa using mem1 y hy) on1)
set_option maxRecDepth 100000 in
set_option maxHeartbeats 16000000 in
theorem ci_Unlike (v0 : Value) (x0 : TBtree) (v1 : Value) (x1 : TBtree) (w : World) (h0 : AV shBtree w v0 x0) (hn0 : shBtree.sz x0 ≤ 1048576) (h1 : AV shBtree w v1 x1) (hn1 : shBtree.sz x1 ≤ 1048576) : Calls Try.prog 13 #[v0, v1] w (ToL shI (unlikeL x0.2 x1.2) w) := by
  obtain ⟨cs, rfl, h⟩ := h0
  obtain ⟨xr, S⟩ := x0
  have hxS : S.length ≤ 1048576 := by
    have : shBtree.sz (xr, S) = 0 + (shL shSlot).sz S := rfl
    have h2 : (shL shSlot).sz S = S.length + (S.map shSlot.sz).sum := rfl
    omega
  have ho := openBtree h
  dsimp only at ho
  obtain ⟨A0, c0, rfl, br, b0⟩ := ho
  obtain ⟨ds, rfl, k⟩ := h1
  obtain ⟨yr, T⟩ := x1
  have hxT : T.length ≤ 1048576 := by
    have : shBtree.sz (yr, T) = 0 + (shL shSlot).sz T := rfl
    have h2 : (shL shSlot).sz T = T.length + (T.map shSlot.sz).sum := rfl
    omega
  have ko := openBtree k
  dsimp only at ko ⊢
  obtain ⟨B0, d0, rfl, er, e0⟩ := ko
  obtain ⟨f, hS⟩ := slotsIn_ex b0
  obtain ⟨g, hT⟩ := slotsIn_ex e0
  have hI64 : ∀ x p, (pgF S x = some p ∨ pgF T x = some p) → I64 x := fun x p hp => hp.elim (pgF_I64 hS) (pgF_I64 hT)
  have HI := Lib.hid hI64
  have HSI := Lib.hid hS; have HTI := Lib.hid hT
  clear h k hn0 hn1 b0 e0 hI64 hS hT
  have kx0 : Bk ((w.alloc (.cells #[.int .i64 xr, .slice A0 S.length c0] 37)).alloc (.cells #[.int .i64 yr, .slice B0 T.length d0] 37)) w.heap.size 37 #[.int .i64 xr, .slice A0 S.length c0] := (Bk.new _ _ _).alloc _
  have ky0 : Bk ((w.alloc (.cells #[.int .i64 xr, .slice A0 S.length c0] 37)).alloc (.cells #[.int .i64 yr, .slice B0 T.length d0] 37)) (w.heap.size + 1) 37 #[.int .i64 yr, .slice B0 T.length d0] := by simpa using Bk.new (w.alloc (.cells #[.int .i64 xr, .slice A0 S.length c0] 37)) 37 #[.int .i64 yr, .slice B0 T.length d0]
  have uu0 : Up w ((w.alloc (.cells #[.int .i64 xr, .slice A0 S.length c0] 37)).alloc (.cells #[.int .i64 yr, .slice B0 T.length d0] 37)) := ((Up.refl _).alloc _).alloc _
  go_enter Try.func13, Try.ntmps13
  go_wp2_with fail
  generalize ((w.alloc (.cells #[.int .i64 xr, .slice A0 S.length c0] 37)).alloc (.cells #[.int .i64 yr, .slice B0 T.length d0] 37)) = W0 at kx0 ky0 uu0 ⊢
  have hc : ∀ W' : World, Up W0 W' → W'.cell? ⟨w.heap.size, 0, none⟩ = some (.int .i64 xr) ∧ W'.cell? ⟨w.heap.size, 1, none⟩ = some (.slice A0 S.length c0) ∧ W'.cell? ⟨w.heap.size + 1, 0, none⟩ = some (.int .i64 yr) ∧ W'.cell? ⟨w.heap.size + 1, 1, none⟩ = some (.slice B0 T.length d0) := fun W' u => ⟨(kx0.up u).cell 0, (kx0.up u).cell 1, (ky0.up u).cell 0, (ky0.up u).cell 1⟩
  have HC := Lib.hid hc
  clear kx0 ky0 hc
  have U0 := Up.refl W0
  have hC1 : ∀ (W' : World), Up W0 W' → Calls Try.prog 29 #[.agg #[.int .i64 xr, .slice A0 S.length c0]] W' (FirstP S f W') := fun W' u => c_firstSlots xr A0 c0 S f W' (HSI.out.up (uu0.trans u)) hxS
  have hC2 : ∀ (W' : World), Up W0 W' → Calls Try.prog 29 #[.agg #[.int .i64 yr, .slice B0 T.length d0]] W' (FirstP T g W') := fun W' u => c_firstSlots yr B0 d0 T g W' (HTI.out.up (uu0.trans u)) hxT
  have C1 := Lib.hid hC1; have C2 := Lib.hid hC2
  clear hC1 hC2
  go_region_held3 (fun W : World => W.cell? ⟨w.heap.size, 0, none⟩ = some (.int .i64 xr) ∧ W.cell? ⟨w.heap.size, 1, none⟩ = some (.slice A0 S.length c0) ∧ W.cell? ⟨w.heap.size + 1, 0, none⟩ = some (.int .i64 yr) ∧ W.cell? ⟨w.heap.size + 1, 1, none⟩ = some (.slice B0 T.length d0))
    (first | with_reducible exact HC.out _ U0.drew | with_reducible exact HC.out _ ua | with_reducible exact HC.out _ ub)
    (first
      | (go_at_call 29; (with_reducible refine (C1.out _ U0.drew).mono ?_); rintro e w1 ⟨ma, na, rfl, vA, nA, la, la2, ua'⟩; have ua := U0.drew.trans ua')
      | (go_at_call 29; (with_reducible refine (C2.out _ ua).mono ?_); rintro e w2 ⟨mb, nb, rfl, vB, nB, lb, lb2, ub'⟩; have ub := ua.trans ub'))
  obtain ⟨DA, ownA, fitA⟩ := (vA.up ub').fits
  have hu2 := uu0.trans ub
  have FA := Lib.hid fitA
  have hmab : ma < mb := by omega
  have hlo2 := hu2.size
  have hlo1 := (uu0.trans ua).size
  have hla : w.heap.size ≤ ma := by have := uu0.size; have : W0.drew.heap.size = W0.heap.size := rfl; omega
  have hVB := Lib.hid vB
  have e1 : (w2.alloc (.cells #[] 2)).heap.size = w2.heap.size + 1 := by simp
  clear fitA vA vB ua ua' ub ub' C1 C2 HC U0 la lb
  go_wp2_with (first
    | (at_range; refine wpList_range_own _ rfl _ 57 rfl 2 61 (int_keyed Try.underlying2) Try.underlying57 (RV (pageVals S f)) ma na DA rfl (ownA.alloc _) ?_; intro w0 hrg0 hg0 hs0)
    | go_in)
  go_frame
  rw [e1] at hrg0 hs0 ⊢
  go_loopw [7] (fun v wr => ∃ (left : Lit → Bool) (cnt : Nat) (O : List Int) (D : Option Addr) (d : Nat) (bl : List Nat), v = .slice D O.length d ∧ O.length + cnt ≤ S.length ∧ Hid (LR w ma (w2.heap.size + 1) na DA (pageVals S f) mb nb (pageVals T g) (VF T g (cameN T.length T.length)) left cnt O D d bl wr) ∧ Hid (CollA S T left O)) (fun _ wr => wr.rangeLeft ma (w2.heap.size + 1))
  case atStart =>
    have u0 : Up w2 w0 := ((Up.refl w2).alloc (.cells #[] 2)).trans ⟨hg0.os, hg0.tape, hg0.output, hg0.size, fun i hi => hg0.block i hi (by simp)⟩
    exact ⟨_, _, [], some ⟨w2.heap.size, 0, none⟩, 0, [], rfl, by rw [List.length_nil, Nat.zero_add]; exact Nat.le_trans (owns_size ownA) nA,
      Lib.hid ⟨hrg0, hVB.out.up u0, ⟨Nat.le_refl _, Nat.zero_le _, .inl ⟨rfl, rfl, rfl⟩⟩, List.nodup_nil, fun y hy => absurd hy (by simp), by omega, hu2.trans u0⟩,
      Lib.hid (collA_start fun x hx => (FA.out x hx).1.trans (VF_isSome S f x))⟩
  case round =>
    obtain ⟨left, cnt, O, D, d, bl, rfl, hOn, R, HCo⟩ := hrel
    have hrg := R.out.rg
    have hlu := R.out.up.size
    go_wp2_with (first
      | (at_next; refine wpList_next_ranges _ rfl _ rfl 2 (int_keyed Try.underlying2) (RV (pageVals S f)) (Value.int .i64) (pageTo S f) (fun key kl hk => by obtain ⟨x, hx, _⟩ := Maps.keyOf_int_inv Try.underlying2 hk; exact ⟨x, hx⟩) (fun v y hv => by obtain ⟨q, hq, _⟩ := rv_inv hv; exact pageVals_inv HSI.out.1 (List.mem_of_getElem? hq)) ma (w2.heap.size + 1) na _ _ _ rfl hrg ?_ ?_)
      | go_in)
    · intro hc0 hl0
      subst hc0
      have vA' : VMap Try.prog 2 wr ma na (pageVals S f) (VF S f (cameN S.length S.length)) := ⟨DA, hrg.owns, FA.out⟩
      obtain ⟨DB, ownB, fitB⟩ := R.out.ot.fits
      have HCB := Lib.hid (collA_end HCo.out hl0 (D := DB) (fun x hx => (fitB x hx).1.trans (VF_isSome T g x)))
      have FB := Lib.hid fitB
      have HVA := Lib.hid vA'
      have hrl := hrg.lt
      clear fitB vA' hl0 hrg
      go_wp2_with (first
        | (at_range; refine wpList_range_own _ rfl _ 57 rfl 2 61 (int_keyed Try.underlying2) Try.underlying57 (RV (pageVals T g)) mb nb DB rfl ownB ?_; intro w5 hrg5 hg5 hs5)
        | go_in)
      go_frame
      obtain ⟨r1, hr1⟩ : ∃ r1, wr.heap.size = r1 := ⟨_, rfl⟩
      rw [hr1] at hrg5 ⊢
      go_loopw [7] (fun v wz => ∃ (left : Lit → Bool) (cnt : Nat) (O : List Int) (D : Option Addr) (d : Nat) (bl : List Nat), v = .slice D O.length d ∧ O.length + cnt ≤ S.length + T.length ∧ Hid (LR w mb r1 nb DB (pageVals T g) ma na (pageVals S f) (VF S f (cameN S.length S.length)) left cnt O D d bl wz) ∧ Hid (CollB S T left O)) (fun _ wz => wz.rangeLeft mb r1)
      case atStart =>
        have u5 : Up wr w5 := ⟨hg5.os, hg5.tape, hg5.output, hg5.size, fun i hi => hg5.block i hi (by simp)⟩
        exact ⟨_, _, O, D, d, bl, rfl, by have := owns_size ownB; omega,
          Lib.hid ⟨hrg5, HVA.out.up u5, R.out.so.up good_I u5, R.out.nd, fun y hy => ⟨(R.out.bk y hy).2.1, (R.out.bk y hy).1, by have := (R.out.so.in_ good_I y hy).2; omega⟩, by omega, R.out.up.trans u5⟩, HCB⟩
      case round =>
        clear HCB HVA hrg5 hg5 hs5 R HCo hOn
        obtain ⟨left, cnt, O, D, d, bl, rfl, hOn, R, HCo⟩ := hrel
        have hrg := R.out.rg
        have hluz := R.out.up.size
        go_wp2_with (first
          | (at_next; refine wpList_next_ranges _ rfl _ rfl 2 (int_keyed Try.underlying2) (RV (pageVals T g)) (Value.int .i64) (pageTo T g) (fun key kl hk => by obtain ⟨x, hx, _⟩ := Maps.keyOf_int_inv Try.underlying2 hk; exact ⟨x, hx⟩) (fun v y hv => by obtain ⟨q, hq, _⟩ := rv_inv hv; exact pageVals_inv HTI.out.1 (List.mem_of_getElem? hq)) mb r1 nb _ _ _ rfl hrg ?_ ?_)
          | go_in)
        · intro hc0 hl0
          have hU : (O.mergeSort fun x y => decide (x ≤ y)) = unlikeL S T := unlike_eq (sort_lt HCo.out.1) (fun x => by rw [sort_mem]; exact collB_end HCo.out hl0 HI.out x)
          have hUl : O.length = (unlikeL S T).length := by rw [← hU, List.length_mergeSort]
          have HU := Lib.hid hU
          have HL := Lib.hid hUl
          clear hU hrg hUl
          go_wp2_with (go_at_call 31; refine (c_SortI O O.length rfl D d w.heap.size bl _ R.out.so (by omega)).mono ?_; rintro e w6 ⟨rfl, so6, on6⟩)
          go_ret
          rw [HU.out] at so6
          refine ⟨D, d, bl, by rw [HL.out] <;> rfl, so6, R.out.nd, R.out.up.only on6 (fun y hy => (R.out.so.in_ good_I y hy).1)⟩
        · intro x c kl yd yp w3 cnt1 hkey hlk hv hat hrg1 hlt hg1 hs1 hen
          obtain ⟨x', ex, rfl, hwx⟩ := Maps.keyOf_int_inv Try.underlying2 hkey
          cases ex
          have R1 := Lib.hid (R.out.next hrg1 hg1)
          have hix : I64 x := wf_i64 hwx
          obtain ⟨i, hi, hci, hpT⟩ := VF_some (FB.out.got hix hv hat)
          simp only [pageTo] at hci hen ⊢
          have hlk2 := R1.out.ot.look_ok (t := 57) (e := 61) Try.underlying2 Try.underlying57 (zero_pageV _) (pageVals_head S f) (i := x) hix
          clear hs1 hkey hat hv hci
          cases hA : VF S f (cameN S.length S.length) x with
          | none =>
            rw [hA] at hlk2
            simp only [Option.getD, Option.isSome] at hlk2
            have hpS := VF_none hA
            clear hA
            have RZ := Lib.hid (R1.out.ups ((Up.refl w3).alloc (.cells #[.bool false, .slice none 0 0, .slice none 0 0, .slice none 0 0] 61)))
            have HC2 := Lib.hid (collB_add HCo.out hlk hix hpS (by rw [hpT]; rfl))
            clear hpS hpT
            go_wp2_with (first
              | (at_builtin; refine wpList_collect (x := x) rfl _ _ rfl RZ.out hix (by omega) (by simp) rfl rfl ?_; intro D1 d1 bl1 w9 hR3; have R3 := Lib.hid hR3; clear hR3)
              | go_in)
            go_roundw
            case rel => exact ⟨_, cnt1, O ++ [x], D1, d1, bl1, by simp, by simp; omega, R3, HC2⟩
            case measure => rw [R3.out.rg.left_eq, hrg.left_eq]; exact hlt
          | some u =>
            obtain ⟨j, hj, rfl, hpS⟩ := VF_some hA
            rw [hA] at hlk2
            simp only [Option.getD, Option.isSome, pageTo] at hlk2
            clear hA
            have R3 := Lib.hid (R1.out.ups ((Up.refl w3).alloc (.cells #[.bool (sAt S j).2.1, .slice (f j).1.1 (sAt S j).2.2.1.length (f j).1.2, .slice (f j).2.1.1 (sAt S j).2.2.2.1.length (f j).2.1.2, .slice (f j).2.2.1 (sAt S j).2.2.2.2.length (f j).2.2.2] 61)))
            have HC2 := Lib.hid (collB_skip (x := x) HCo.out (by rw [hpS]; rfl))
            clear hpS hpT
            go_wp2_with fail
            go_roundw
            case rel => exact ⟨_, cnt1, O, D, d, bl, rfl, by omega, R3, HC2⟩
            case measure => rw [R3.out.rg.left_eq, hrg.left_eq]; exact hlt
    · intro x c kl yd yp w3 cnt1 hkey hlk hv hat hrg1 hlt hg1 hs1 hen
      obtain ⟨x', ex, rfl, hwx⟩ := Maps.keyOf_int_inv Try.underlying2 hkey
      cases ex
      have R1 := Lib.hid (R.out.next hrg1 hg1)
      have hix : I64 x := wf_i64 hwx
      obtain ⟨i, hi, hci, hpS⟩ := VF_some (FA.out.got hix hv hat)
      simp only [pageTo] at hci hen ⊢
      have hav : ∀ W, Up w W → AV shPage W (.agg #[.bool (sAt S c).2.1, .slice (f c).1.1 (sAt S c).2.2.1.length (f c).1.2, .slice (f c).2.1.1 (sAt S c).2.2.2.1.length (f c).2.1.2, .slice (f c).2.2.1 (sAt S c).2.2.2.2.length (f c).2.2.2]) S[i].2 := fun W u => by rw [hci]; exact HSI.out.av (u.keeps (Nat.le_refl _)) u.size hi
      have HAV := Lib.hid hav
      have uA := (Up.refl w3).alloc (.cells #[.bool (sAt S c).2.1, .slice (f c).1.1 (sAt S c).2.2.1.length (f c).1.2, .slice (f c).2.1.1 (sAt S c).2.2.2.1.length (f c).2.1.2, .slice (f c).2.2.1 (sAt S c).2.2.2.2.length (f c).2.2.2] 61)
      have RA := Lib.hid (R1.out.ups uA)
      have hlk2 := RA.out.ot.look_ok (t := 57) (e := 61) Try.underlying2 Try.underlying57 (zero_pageV _) (pageVals_head T g) (i := x) hix
      clear hs1 hkey hat hv hci hav
      cases hB : VF T g (cameN T.length T.length) x with
      | none =>
        rw [hB] at hlk2
        simp only [Option.getD, Option.isSome] at hlk2
        have hpT := VF_none hB
        clear hB
        have uZ := (Up.refl (w3.alloc (.cells #[.bool (sAt S c).2.1, .slice (f c).1.1 (sAt S c).2.2.1.length (f c).1.2, .slice (f c).2.1.1 (sAt S c).2.2.2.1.length (f c).2.1.2, .slice (f c).2.2.1 (sAt S c).2.2.2.2.length (f c).2.2.2] 61))).alloc (.cells #[.bool false, .slice none 0 0, .slice none 0 0, .slice none 0 0] 61)
        have RZ := Lib.hid (RA.out.ups uZ)
        have HC2 := Lib.hid (collA_add HCo.out hlk hix (by rw [hpS]; rfl) (by rw [hpS, hpT]; simp))
        clear hpS hpT
        go_wp2_with (first
            | (at_builtin; refine wpList_collect (x := x) rfl _ _ rfl RZ.out hix (by omega) (by simp) rfl rfl ?_; intro D1 d1 bl1 w9 hR3; have R3 := Lib.hid hR3; clear hR3)
            | go_in)
        go_roundw
        case rel => exact ⟨_, cnt1, O ++ [x], D1, d1, bl1, by simp, by simp; omega, R3, HC2⟩
        case measure => rw [R3.out.rg.left_eq, hrg.left_eq]; exact hlt
      | some u =>
        obtain ⟨j, hj, rfl, hpT⟩ := VF_some hB
        rw [hB] at hlk2
        simp only [Option.getD, Option.isSome, pageTo] at hlk2
        clear hB
        have HBV := Lib.hid (fun (W : World) (u : Up w W) => show AV shPage W (.agg #[.bool (sAt T j).2.1, .slice (g j).1.1 (sAt T j).2.2.1.length (g j).1.2, .slice (g j).2.1.1 (sAt T j).2.2.2.1.length (g j).2.1.2, .slice (g j).2.2.1 (sAt T j).2.2.2.2.length (g j).2.2.2]) T[j].2 from HTI.out.av (u.keeps (Nat.le_refl _)) u.size hj)
        have uZ := (Up.refl (w3.alloc (.cells #[.bool (sAt S c).2.1, .slice (f c).1.1 (sAt S c).2.2.1.length (f c).1.2, .slice (f c).2.1.1 (sAt S c).2.2.2.1.length (f c).2.1.2, .slice (f c).2.2.1 (sAt S c).2.2.2.2.length (f c).2.2.2] 61))).alloc (.cells #[.bool (sAt T j).2.1, .slice (g j).1.1 (sAt T j).2.2.1.length (g j).1.2, .slice (g j).2.1.1 (sAt T j).2.2.2.1.length (g j).2.1.2, .slice (g j).2.2.1 (sAt T j).2.2.2.2.length (g j).2.2.2] 61)
        have RZ := Lib.hid (RA.out.ups uZ)
        have HU := Lib.hid RZ.out.up
        by_cases he : S[i].2 = T[j].2
        · have HC2 := Lib.hid (collA_skip (x := x) HCo.out (by rw [hpS, hpT, he]))
          have HE := Lib.hid he
          clear hpS hpT he
          go_wp2_with (go_at_call 30; refine (c_implSamePage _ _ S[i].2 T[j].2 _ (HAV.out _ HU.out) (HBV.out _ HU.out)).mono ?_; rintro e w4 ⟨b, rfl, hb, u4⟩; obtain rfl := hb.2 HE.out)
          have R3 := Lib.hid (RZ.out.ups u4)
          go_roundw
          case rel => exact ⟨_, cnt1, O, D, d, bl, rfl, by omega, R3, HC2⟩
          case measure => rw [R3.out.rg.left_eq, hrg.left_eq]; exact hlt
        · have HC2 := Lib.hid (collA_add HCo.out hlk hix (by rw [hpS]; rfl) (by rw [hpS, hpT]; simpa using he))
          have HE := Lib.hid he
          clear hpS hpT he
          go_wp2_with (first
            | (go_at_call 30; refine (c_implSamePage _ _ S[i].2 T[j].2 _ (HAV.out _ HU.out) (HBV.out _ HU.out)).mono ?_; rintro e w4 ⟨b, rfl, hb, u4⟩; obtain rfl := eqb_false hb HE.out; have RZ := Lib.hid (RZ.out.ups u4); clear u4 hb)
            | (first
                | (at_builtin; refine wpList_collect (x := x) rfl _ _ rfl RZ.out hix (by omega) (by simp) rfl rfl ?_; intro D1 d1 bl1 w9 hR3; have R3 := Lib.hid hR3; clear hR3)
                | go_in))
          go_roundw
          case rel => exact ⟨_, cnt1, O ++ [x], D1, d1, bl1, by simp, by simp; omega, R3, HC2⟩
          case measure => rw [R3.out.rg.left_eq, hrg.left_eq]; exact hlt
end Go.Proofs.Ytgdcdfpnogiciaa
