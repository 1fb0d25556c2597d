/-
  Inspections: one page, the reference's.
-/
import Derived.Test.YtpjcgglhlmifdaaGreatDoorM1Xl
import Derived.Deep.RegionHeld3
import Derived.Deep.DeepCutAuto
import Derived.Deep.CutBlock
namespace Go.Proofs.YtpjcgglhlmifdaaGreatDoor
open Go.RowKit
set_option linter.unusedVariables false
set_option linter.unusedSimpArgs false

/-- What a visit of fuel n does, for every page that there is. -/
def VisN (x : TBtree) (lo wb : Nat) (A0 : Option Addr) (c0 n : Nat) : Prop :=
  ∀ (id F : Int) (far : Nat) (low high : ByteArray) (p : TPage) (s : TInsp) (M : Option Addr) (cM : Nat) (E : Option Addr) (cE : Nat) (bm bf : List Nat) (w : World), I64 id → Hid (F = (far : Int)) → pgAt x id = some p → VisR w lo wb A0 c0 x s M cM E cE bm bf → InsOk x s → x.2.length ≤ n + s.1.length → 1 ≤ far → n + far ≤ 1000 →
    Calls Tryz.prog 106 #[.pointer (some ⟨wb, 0, none⟩), .int .i64 id, .int .i64 F, .string low, .string high] w (fun e w' => e = .returned (.tuple #[]) ∧ VisT lo wb A0 c0 x (visitB x n id far low high s) (bf ++ bm) w w')
theorem puts_len {x : TBtree} (hs : SlotsP x.2) {met : List Int} (hm : MetOk x met) : (putsI [] met).length ≤ 64 := by
  rw [← reached_eq hs hm]
  have h1 := List.length_filter_le (fun i => met.contains i) (x.2.map (·.1))
  rw [List.length_map] at h1
  have := slots_len hs
  omega
set_option maxRecDepth 100000 in
set_option maxHeartbeats 4000000 in
theorem vis_twice {x : TBtree} (hs : SlotsP x.2) {lo wb : Nat} {A0 : Option Addr} {c0 n : Nat} {id F : Int} {far : Nat} {low high : ByteArray} {s : TInsp} {M : Option Addr} {cM : Nat} {E : Option Addr} {cE : Nat} {bm bf : List Nat} {w : World} (hid : I64 id) (R : VisR w lo wb A0 c0 x s M cM E cE bm bf) (hok : InsOk x s) (hc : s.1.contains id = true) :
    Calls Tryz.prog 106 #[.pointer (some ⟨wb, 0, none⟩), .int .i64 id, .int .i64 F, .string low, .string high] w (fun e w' => e = .returned (.tuple #[]) ∧ VisT lo wb A0 c0 x (visitB x n id far low high s) (bf ++ bm) w w') := by
  rw [visitB_twice hc]
  have hlen := InsOk.len hs hok
  have CR := Lib.hid (c_tell 3 id (by decide) hid R (by omega))
  have CH := Lib.hid (c_l00Has (putsI [] s.1) M cM id w (SR.of_own good_I R.sm))
  rw [putsI_contains, hc] at CH
  have g2 : w.cell? ⟨wb, 2, none⟩ = some (.slice M (putsI [] s.1).length cM) := R.kw.cell 2
  have HOK := Lib.hid hok
  clear hok hc hlen R
  go_enter Tryz.func106, Tryz.ntmps106
  go_wp2_with fail
  refine CH.out.mono ?_
  rintro e w2 ⟨rfl, rfl⟩
  go_wp2_with fail
  refine CR.out.mono ?_
  rintro e w3 ⟨rfl, T⟩
  go_wp2_with fail
  refine bodyPost_ret (v := .tuple #[]) (by simp [results, Tryz.results106, go_sem]) rfl ?_
  exact ⟨rfl, T⟩
set_option maxRecDepth 100000 in
set_option maxHeartbeats 16000000 in
theorem vis_in {x : TBtree} (hs : SlotsP x.2) (hr : I64 x.1) {lo wb : Nat} {A0 : Option Addr} {c0 n : Nat} (IH : VisN x lo wb A0 c0 n) {id F : Int} {far : Nat} {low high : ByteArray} {p : TPage} {s : TInsp} {M : Option Addr} {cM : Nat} {E : Option Addr} {cE : Nat} {bm bf : List Nat} {w : World} (hid : I64 id) (hF : Hid (F = (far : Int)))
    (hp : pgAt x id = some p) (R : VisR w lo wb A0 c0 x s M cM E cE bm bf) (hok : InsOk x s) (hl : x.2.length ≤ n + 1 + s.1.length) (hfp : 1 ≤ far) (hf1 : n + 1 + far ≤ 1000) (hc : s.1.contains id = false) :
    Calls Tryz.prog 106 #[.pointer (some ⟨wb, 0, none⟩), .int .i64 id, .int .i64 F, .string low, .string high] w (fun e w' => e = .returned (.tuple #[]) ∧ VisT lo wb A0 c0 x (visitB x (n + 1) id far low high s) (bf ++ bm) w w') := by
  have HW := Lib.hid (visitB_in (n := n) (far := far) (lo := low) (hi := high) hp hc)
  generalize visitB x (n + 1) id far low high s = r at HW ⊢
  have hpb := pgAt_ok hs hp
  have hlen0 := InsOk.len hs hok
  have PG := Lib.hid (fun (k : Nat) (hk : k ≤ 6) => page_insp (n := n) (lo := low) (hi := high) hs hfp hok hp hc hk)
  have HD0 : Hid (∀ d, s.2.1 = some d → 1 ≤ d) := Lib.hid hok.2.1
  have hpl := puts_len hs hok.1
  have HSL := Lib.hid hs
  have CH := Lib.hid (c_l00Has (putsI [] s.1) M cM id w (SR.of_own good_I R.sm))
  rw [putsI_contains, hc] at CH
  have CU := Lib.hid (c_l00Put (putsI [] s.1) id M cM w (SR.of_own good_I R.sm) hid (by omega))
  rw [← putsI_snoc] at CU
  obtain ⟨N, hN⟩ : ∃ N, N = (putsI [] s.1).length := ⟨_, rfl⟩
  obtain ⟨N1, hN1⟩ : ∃ N1, N1 = (putsI [] (s.1 ++ [id])).length := ⟨_, rfl⟩
  have kw0 := R.kw
  rw [← hN] at CH CU kw0
  have HN1 := Lib.hid hN1
  have g2 : w.cell? ⟨wb, 2, none⟩ = some (.slice M N cM) := kw0.cell 2
  have HPL := Lib.hid hpl
  have hcN := Lib.hid hc
  have hpN := Lib.hid hp
  have hpbN := Lib.hid hpb
  have RN := Lib.hid R
  clear hc hok hs hp hpb hpl hN hN1 R
  go_enter Tryz.func106, Tryz.ntmps106
  go_wp2_with fail
  refine CH.out.mono ?_
  rintro e w1 ⟨rfl, rfl⟩
  clear CH
  go_wp2_with fail
  refine CU.out.mono ?_
  rintro e w2 ⟨D, d, bd, rfl, sd, ndd, u2⟩
  rw [← HN1.out]
  have T3 := Lib.hid (RN.out.met u2 HN1.out sd ndd)
  have kw2 := kw0.up u2
  have g2' : w2.cell? ⟨wb, 2, none⟩ = some (.slice M N cM) := kw2.cell 2
  have f2 := kw2.frozen 2
  clear CU g2 sd ndd
  go_upto_region 3 with fail
  clear g2' f2
  generalize w2.setCell ⟨wb, 2, none⟩ (.slice D N1 d) = W3 at T3 ⊢
  obtain ⟨M3, cM3, E3, cE3, bm3, bf3, R3, o3, m3⟩ := T3.out
  have g0 : W3.cell? ⟨wb, 0, none⟩ = some (.int .i64 x.1) := R3.kw.cell 0
  have g1 : W3.cell? ⟨wb, 1, none⟩ = some (.slice A0 x.2.length c0) := R3.kw.cell 1
  have hlo3 : lo ≤ W3.heap.size := by have := R3.kw.lt; have := R3.h1; omega
  have CP := Lib.hid (c_l16Page [.int .i64 x.1, .slice A0 x.2.length c0] x id p W3 lo hlo3 (mkBtree (x := x) hr R3.sl) HSL.out hpN.out)
  have R3N := Lib.hid R3
  have O3 := Lib.hid o3
  have M3' := Lib.hid m3
  clear R3 o3 m3 T3
  go_wp2_with fail
  refine CP.out.mono ?_
  rintro e w4 ⟨csp, rfl, hrep, u4⟩
  obtain ⟨A1, c1, A2, c2, A3, c3, hcs, b1, b2, b3⟩ := openPage hrep
  subst hcs
  clear g0 g1 CP hrep b2
  go_upto_region 4 with fail
  have uA : Up w4 (w4.alloc (.cells #[.bool p.1, .slice A1 p.2.1.length c1, .slice A2 p.2.2.1.length c2, .slice A3 p.2.2.2.length c3] 88)) := (Up.refl _).alloc _
  have kg := Bk.new w4 88 #[.bool p.1, .slice A1 p.2.1.length c1, .slice A2 p.2.2.1.length c2, .slice A3 p.2.2.2.length c3]
  generalize (w4.alloc (.cells #[.bool p.1, .slice A1 p.2.1.length c1, .slice A2 p.2.2.1.length c2, .slice A3 p.2.2.2.length c3] 88)) = W4 at uA kg ⊢
  have z34 := u4.size
  have q1 := SR.keep good_S b1 (uA.keeps (by omega : lo ≤ w4.heap.size))
  have q3 := SR.keep good_I b3 (uA.keeps (by omega : lo ≤ w4.heap.size))
  have u34 := u4.trans uA
  have R4 := R3N.out.up u34
  have far4 := Lib.hid R3N.out.far
  have O4 := Lib.hid (O3.out.up u34)
  have HK : Hid (∀ wx, Only (wb :: (bf3 ++ bm3)) W4 wx → Bk wx w4.heap.size 88 #[.bool p.1, .slice A1 p.2.1.length c1, .slice A2 p.2.2.1.length c2, .slice A3 p.2.2.2.length c3] ∧ SR shS wx 0 lo A1 c1 p.2.1 ∧ SR shI wx 0 lo A3 c3 p.2.2.2) := Lib.hid (fun wx o => by
    have kp : Keeps 0 lo W4 wx := fun y _ h2 => o.block y (by have := uA.size; omega) (fun hm => by have := (far4.out y hm).1; omega)
    exact ⟨kg.only o (fun hm => by have := (far4.out _ hm).2; omega), SR.keep good_S q1 kp, SR.keep good_I q3 kp⟩)
  have T4 : Hid (VisT lo wb A0 c0 x (meetF s id) (bf3 ++ bm3) W4 W4) := Lib.hid (R4.here (Up.refl _))
  have R4N := Lib.hid R4
  have hln := q1.len_le
  have hln3 := q3.len_le
  have gB1 : W4.cell? ⟨w4.heap.size, 1, none⟩ = some (.slice A1 p.2.1.length c1) := kg.cell 1
  have hKP := Lib.hid (page_keysP hpbN.out)
  clear R4 b1 b3 u34 u4 uA R3N O3 z34
  go_upto_region 5 with fail
  go_cut [65] (fun t wx => t = .bool (p.2.1.any (badKey low high)) ∧ W4 = wx)
  case first =>
    by_cases hk0 : p.2.1.length = 0
    · have hk0i : ¬ (0 : Int) < (p.2.1.length : Int) := by omega
      have HB := Lib.hid (show p.2.1.any (badKey low high) = false by rw [List.eq_nil_of_length_eq_zero hk0]; rfl)
      clear hk0
      go_wp2_with fail
      go_meet
      exact ⟨by rw [HB.out], rfl⟩
    · have h0 : 0 < p.2.1.length := by omega
      have h0i : (0 : Int) < (p.2.1.length : Int) := by omega
      have HB := Lib.hid (badKeys_ends hKP.out low high h0)
      obtain ⟨gk, ok, rfl, _, _, hck, _⟩ := q1.at_S h0
      have hck0 : W4.cell? ⟨gk, ok, none⟩ = some (.string p.2.1[0]) := by simpa using hck
      clear hck
      have hh : ∀ b, high.toList.isEmpty = b → decide (high ≠ ⟨#[]⟩) = !b := fun b h => by
        subst h
        by_cases e : high = ⟨#[]⟩
        · subst e; simp [ByteArray.toList_eq]
        · rw [decide_eq_true e]
          cases q : high.toList.isEmpty
          · rfl
          · exfalso
            rw [List.isEmpty_iff, ByteArray.toList_eq] at q
            exact e (ByteArray.ext (Array.toList_inj.1 q))
      cases ha : bytesLt p.2.1[0] low
      · have ha' : Op.bytesLess p.2.1[0].toList low.toList = false := ha
        cases he : high.toList.isEmpty
        · have hd := Lib.hid (hh _ he)
          obtain ⟨l, hl'⟩ : ∃ l, l = p.2.1.length - 1 := ⟨_, rfl⟩
          have hll : l < p.2.1.length := by omega
          have hwl : IntKind.i64.wrap ((p.2.1.length : Int) - 1) = (l : Int) := by rw [IntWalk.i64_in _ (by omega)]; omega
          obtain ⟨gk', ok', hgo, _, _, hckl, _⟩ := q1.at_S hll
          injection hgo with hgo
          injection hgo with hg' ho' _
          subst hg' ho'
          have hl0 : (0 : Int) ≤ (l : Int) := by omega
          have hl1 : (l : Int) < (p.2.1.length : Int) := by omega
          have HBl := Lib.hid (show p.2.1.any (badKey low high) = !bytesLt p.2.1[l] high by
            rw [HB.out, ha, hd.out]
            simp only [hl', Bool.false_or, Bool.not_false, Bool.true_and])
          clear HB hl' hh ha
          cases hb : bytesLt p.2.1[l] high
          · have hb' : Op.bytesLess p.2.1[l].toList high.toList = false := hb
            have HBf := Lib.hid (HBl.out.trans (by rw [hb]))
            clear hb HBl
            go_wp2_with fail
            go_meet
            exact ⟨by rw [HBf.out]; rfl, rfl⟩
          · have hb' : Op.bytesLess p.2.1[l].toList high.toList = true := hb
            have HBf := Lib.hid (HBl.out.trans (by rw [hb]))
            clear hb HBl
            go_wp2_with fail
            go_meet
            exact ⟨by rw [HBf.out]; rfl, rfl⟩
        · have HBf := Lib.hid (HB.out.trans (by rw [ha, hh _ he]; rfl : _ = false))
          clear HB hh ha
          go_wp2_with fail
          go_meet
          exact ⟨by rw [HBf.out], rfl⟩
      · have ha' : Op.bytesLess p.2.1[0].toList low.toList = true := ha
        have HBf := Lib.hid (HB.out.trans (by rw [ha]; rfl : _ = true))
        clear HB hh ha
        go_wp2_with fail
        go_meet
        exact ⟨by rw [HBf.out], rfl⟩
  obtain ⟨rfl, rfl⟩ := hcut
  clear gB1
  obtain ⟨S1, hS1⟩ : ∃ S1, S1 = orderF id low high p (meetF s id) := ⟨_, rfl⟩
  have HS1 := Lib.hid hS1
  have hS1l : S1.2.2.length ≤ 577 := by
    rw [hS1]
    have h1 := (orderF_len id low high p (meetF s id)).2.2
    have h2 : (meetF s id).2.2.length = s.2.2.length := rfl
    omega
  have HS1d : Hid (∀ d, S1.2.1 = some d → 1 ≤ d) := Lib.hid (fun d hd => HD0.out d (by rw [hS1, (orderF_len id low high p (meetF s id)).2.1] at hd; exact hd))
  clear hS1
  go_upto_if 65 with fail
  go_cut [] (fun wx => Hid (VisT lo wb A0 c0 x S1 (bf3 ++ bm3) W4 wx))
  case first =>
    cases hb : p.2.1.any (badKey low high)
    · have HE := Lib.hid (HS1.out.trans (orderF_no hb (meetF s id)))
      clear hb
      go_wp2_with fail
      go_meet
      exact Lib.hid (by rw [HE.out]; exact T4.out)
    · have HE := Lib.hid (HS1.out.trans (orderF_yes hb (meetF s id)))
      clear hb
      have CR := Lib.hid (c_tell 4 id (by decide) hid R4N.out (show s.2.2.length ≤ 1000 by omega))
      go_wp2_with fail
      refine CR.out.mono ?_
      rintro e w5 ⟨rfl, T5⟩
      go_wp2_with fail
      go_meet
      exact Lib.hid (by rw [HE.out]; exact T5)
  have HP : Hid (pageF id far low high p s = fewF id far p (leafF id far p S1)) := Lib.hid (by rw [HS1.out]; rfl)
  clear HS1 T4 R4N
  have T1 := hcut
  obtain ⟨M1, cM1, E1, cE1, bm1, bf1, R1, o1, m1⟩ := hcut.out
  obtain ⟨Q1, hQ1⟩ : ∃ Q1, Q1 = wc := ⟨_, rfl⟩
  subst hQ1
  obtain ⟨kg1, q11, q31⟩ := HK.out _ o1
  have gB0 : Q1.cell? ⟨w4.heap.size, 0, none⟩ = some (.bool p.1) := kg1.cell 0
  obtain ⟨v1, hv1⟩ : ∃ v1, v1 = depW S1.2.1 := ⟨_, rfl⟩
  have gw3 : Q1.cell? ⟨wb, 3, none⟩ = some (.int .i64 v1) := by rw [hv1]; exact R1.kw.cell 3
  have fw3 := R1.kw.frozen 3
  have HV1 := Lib.hid hv1
  have O1 := Lib.hid o1
  have MM1 := Lib.hid m1
  have R1N := Lib.hid R1
  obtain ⟨S3, hS3⟩ : ∃ S3, S3 = leafF id far p S1 := ⟨_, rfl⟩
  have HS3 := Lib.hid hS3
  rw [← hS3] at HP
  clear hcut o1 m1 R1 hv1 kg1 q11 q31 hS3
  go_upto_if 70 with fail
  go_cut [] (fun wx => Hid (VisT lo wb A0 c0 x S3 (bf3 ++ bm3) W4 wx ∧ S3.2.2.length ≤ 578))
  case first =>
    cases hlf : p.1
    · have HE := Lib.hid (HS3.out.trans (leafF_fork (id := id) (far := far) hlf S1))
      clear hlf
      go_wp2_with fail
      go_meet
      exact Lib.hid ⟨by rw [HE.out]; exact T1.out, by rw [HE.out]; omega⟩
    · have hlN := Lib.hid hlf
      clear hlf
      go_upto_if 75 with fail
      go_cut [] (fun wx => Hid (VisT lo wb A0 c0 x (deepF S1 far) (bf3 ++ bm3) W4 wx))
      case first =>
        cases hd : S1.2.1 with
        | none =>
          have hv0 : v1 = 0 := by rw [HV1.out, hd]; rfl
          have hv1 : (v1 == 0) = true := by rw [hv0]; rfl
          have HE := Lib.hid (deepF_none hd far)
          have RE := Lib.hid (R1N.out.deep hF)
          have bE := But.set Q1 wb 3 (.int .i64 F)
          have oE := Lib.hid ((Only.refl (wb :: (bf1 ++ bm1)) Q1).but bE (List.mem_cons_self ..))
          clear hd bE
          go_wp2_with fail
          go_meet
          exact Lib.hid (by rw [HE.out]; exact VisT.then O1.out MM1.out ⟨_, _, _, _, _, _, RE.out, oE.out, fun y hy => .inl hy⟩)
        | some d =>
          have hd1 := HS1d.out d hd
          have hv0 : ¬ v1 = 0 := by rw [HV1.out, hd]; show ¬ ((d : Int) = 0); omega
          have hv1 : (v1 == 0) = false := beq_eq_false_iff_ne.2 hv0
          have HE := Lib.hid (deepF_some hd far)
          clear hd
          go_wp2_with fail
          go_meet
          exact Lib.hid (by rw [HE.out]; exact T1.out)
      obtain ⟨d2, hd2⟩ : ∃ d2, (deepF S1 far).2.1 = some d2 := by
        obtain ⟨_, _, d, hd, _⟩ := deepF_met S1 far
        exact ⟨d, hd⟩
      have hS2l : (deepF S1 far).2.2.length ≤ 577 := by rw [(deepF_met S1 far).2.1]; exact hS1l
      have HLS := Lib.hid (fun (h : d2 = far) => HS3.out.trans (leafF_same (id := id) hlN.out (s := S1) (far := far) (by rw [hd2, h])))
      have HLD := Lib.hid (fun (h : d2 ≠ far) => HS3.out.trans (leafF_deep (id := id) hlN.out (s := S1) (far := far) (by rw [hd2]; exact fun e => h (by injection e))))
      obtain ⟨S2, hS2⟩ : ∃ S2, S2 = deepF S1 far := ⟨_, rfl⟩
      rw [← hS2] at hd2 hS2l HLS HLD hcut
      clear hS2 T1 gw3 fw3 HV1 O1 MM1 R1N gB0
      have T2 := hcut
      obtain ⟨M2, cM2, E2, cE2, bm2, bf2, R2, o2, m2⟩ := hcut.out
      obtain ⟨Q2, hQ2⟩ : ∃ Q2, Q2 = wc := ⟨_, rfl⟩
      subst hQ2
      obtain ⟨v2, hv2⟩ : ∃ v2, v2 = (d2 : Int) := ⟨_, rfl⟩
      have gw3 : Q2.cell? ⟨wb, 3, none⟩ = some (.int .i64 v2) := by have := R2.kw.cell 3; rw [hd2] at this; rw [hv2]; exact this
      have heqd : (v2 == F) = decide (d2 = far) := by
        rw [Bool.eq_iff_iff, beq_iff_eq, decide_eq_true_eq, hv2, hF.out]
        omega
      have HED := Lib.hid heqd
      have O2 := Lib.hid o2
      have MM2 := Lib.hid m2
      have R2N := Lib.hid R2
      clear hcut o2 m2 R2 hv2 hd2 heqd
      by_cases hdf : d2 = far
      · have hi1 : (v2 == F) = true := by rw [HED.out]; exact decide_eq_true hdf
        have hi0 : v2 = F := beq_iff_eq.1 hi1
        have hi2 : (v2 != F) = false := by rw [bne, hi1]; rfl
        have HE := Lib.hid (HLS.out hdf)
        clear hdf
        go_wp2_with fail
        go_meet
        exact Lib.hid ⟨by rw [HE.out]; exact T2.out, by rw [HE.out]; omega⟩
      · have hi1 : (v2 == F) = false := by rw [HED.out]; exact decide_eq_false hdf
        have hi0 : ¬ v2 = F := beq_eq_false_iff_ne.1 hi1
        have hi2 : (v2 != F) = true := by rw [bne, hi1]; rfl
        have HE := Lib.hid (HLD.out hdf)
        have CR := Lib.hid (c_tell 5 id (by decide) hid R2N.out (by omega))
        clear hdf
        go_wp2_with fail
        refine CR.out.mono ?_
        rintro e w5 ⟨rfl, T5⟩
        go_wp2_with fail
        go_meet
        exact Lib.hid ⟨by rw [HE.out]; exact VisT.then O2.out MM2.out T5, by rw [HE.out, (tellF_met S2 5 id).2.2]; omega⟩
  clear T1 gw3 fw3 HV1 O1 MM1 R1N gB0 HS3
  obtain ⟨T3, hS3l⟩ := hcut.out
  have T3N := Lib.hid T3
  obtain ⟨M5, cM5, E5, cE5, bm5, bf5, R5, o5, m5⟩ := T3
  obtain ⟨Q3, hQ3⟩ : ∃ Q3, Q3 = wc := ⟨_, rfl⟩
  subst hQ3
  obtain ⟨kg3, q13, q33⟩ := HK.out _ o5
  have gB0 : Q3.cell? ⟨w4.heap.size, 0, none⟩ = some (.bool p.1) := kg3.cell 0
  have gB1 : Q3.cell? ⟨w4.heap.size, 1, none⟩ = some (.slice A1 p.2.1.length c1) := kg3.cell 1
  have gB2 : Q3.cell? ⟨w4.heap.size, 2, none⟩ = some (.slice A2 p.2.2.1.length c2) := kg3.cell 2
  have gB3 : Q3.cell? ⟨w4.heap.size, 3, none⟩ = some (.slice A3 p.2.2.2.length c3) := kg3.cell 3
  have CS := Lib.hid (c_l16Poor p A1 A2 A3 p.2.2.1.length c1 c2 c3 Q3)
  have O5 := Lib.hid o5
  have MM5 := Lib.hid m5
  have R5N := Lib.hid R5
  clear hcut o5 m5 R5 kg3 q13 q33
  go_upto_region 12 with fail
  go_cut [94] (fun t wx => t = .bool (decide (far ≠ 1 ∧ fillOf p < 3)) ∧ Up Q3 wx)
  case first =>
    by_cases hf2 : far = 1
    · have hF1 : ¬ (1 : Int) < F := by have := hF.out; omega
      have HQ := Lib.hid (show decide (far ≠ 1 ∧ fillOf p < 3) = false from decide_eq_false (fun h => h.1 hf2))
      clear hf2
      go_wp2_with fail
      go_meet
      exact ⟨by rw [HQ.out], Up.refl _⟩
    · have hF1 : (1 : Int) < F := by have := hF.out; omega
      have HQ := Lib.hid (show decide (far ≠ 1 ∧ fillOf p < 3) = decide (fillOf p < 3) from decide_eq_decide.2 (by constructor; exact fun h => h.2; exact fun h => ⟨hf2, h⟩))
      clear hf2
      go_wp2_with fail
      refine CS.out.mono ?_
      rintro e w5 ⟨rfl, u5⟩
      go_wp2_with fail
      go_meet
      exact ⟨by rw [HQ.out], u5⟩
  clear CS gB0 gB1 gB2 gB3
  obtain ⟨rfl, u5⟩ := hcut
  obtain ⟨Q5, hQ5⟩ : ∃ Q5, Q5 = wc := ⟨_, rfl⟩
  subst hQ5
  obtain ⟨S4, hS4⟩ : ∃ S4, S4 = pageF id far low high p s := ⟨_, rfl⟩
  have HS4 := Lib.hid hS4
  clear hS4
  go_upto_if 94 with fail
  go_cut [] (fun wx => Hid (VisT lo wb A0 c0 x S4 (bf3 ++ bm3) W4 wx))
  case first =>
    by_cases hff : far ≠ 1 ∧ fillOf p < 3
    · have HE := Lib.hid (show S4 = tellF S3 6 id by rw [HS4.out, HP.out, fewF_yes hff])
      rw [decide_eq_true hff]
      clear hff
      have CR := Lib.hid (c_tell 6 id (by decide) hid (R5N.out.up u5) (by omega))
      have O6 := Lib.hid (O5.out.up u5)
      go_wp2_with fail
      refine CR.out.mono ?_
      rintro e w6 ⟨rfl, T6⟩
      go_wp2_with fail
      go_meet
      exact Lib.hid (by rw [HE.out]; exact VisT.then O6.out MM5.out T6)
    · have HE := Lib.hid (show S4 = S3 by rw [HS4.out, HP.out, fewF_no hff])
      rw [decide_eq_false hff]
      clear hff
      go_wp2_with fail
      go_meet
      exact Lib.hid (by rw [HE.out]; exact T3N.out.up u5)
  clear T3N O5 MM5 R5N u5
  have T6 := hcut
  obtain ⟨Q6, hQ6⟩ : ∃ Q6, Q6 = wc := ⟨_, rfl⟩
  subst hQ6
  have hk63 : p.2.2.2.length ≤ 6 := page_kidsX hpbN.out
  clear hcut
  obtain ⟨G, hG⟩ : ∃ G, G = kidF x n far low high p := ⟨_, rfl⟩
  have HG := Lib.hid hG
  rw [← HG.out] at PG HW
  rw [← HS4.out] at PG HW
  clear hG
  have hF0 : 0 ≤ F ∧ F ≤ 1000 := by have := hF.out; omega
  have hwF : IntKind.i64.wrap (F + 1) = F + 1 := IntWalk.i64_in _ (by omega)
  go_wp2_with fail
  go_loopw [12] (fun i wr => ∃ k : Nat, k ≤ p.2.2.2.length ∧ i = .int .i64 k ∧ Hid (VisT lo wb A0 c0 x (kidsI G k S4) (bf3 ++ bm3) W4 wr)) (fun i _ => p.2.2.2.length - (intOf i).toNat)
  case atStart => exact ⟨0, Nat.zero_le _, rfl, T6⟩
  case round =>
    obtain ⟨k, hk, rfl, HT⟩ := hrel
    obtain ⟨Mt, cMt, Et, cEt, bmt, bft, Rt, ot, mt⟩ := HT.out
    obtain ⟨kgr, q1r, q3r⟩ := HK.out _ ot
    have gr3 : wr.cell? ⟨w4.heap.size, 3, none⟩ = some (.slice A3 p.2.2.2.length c3) := kgr.cell 3
    have gr1 : wr.cell? ⟨w4.heap.size, 1, none⟩ = some (.slice A1 p.2.1.length c1) := kgr.cell 1
    by_cases hlt : k < p.2.2.2.length
    · obtain ⟨ga, oa, rfl, _, _, hcK, hb1, hb2⟩ := q3r.at_I hlt
      have KK := Lib.hid (kid_keys hpbN.out (by omega))
      have hkc := KK.out.2.2.2.1 k hlt
      have hkl := KK.out.2.1
      obtain ⟨hinsT, hpreT⟩ := PG.out k (by omega)
      have hinsN := Lib.hid hinsT
      have hpreN := Lib.hid hpreT
      have hlenT : (kidsI G k S4).2.2.length ≤ 1000 := by have := InsOk.len HSL.out hinsT; omega
      have HKS : Hid (kidsI G (k + 1) S4 = G k (kidsI G k S4)) := Lib.hid rfl
      obtain ⟨kid, hkid⟩ : ∃ kid, kid = p.2.2.2[k] := ⟨_, rfl⟩
      have HKN := Lib.hid (fun (h : pgAt x kid = none) => show kidsI G (k + 1) S4 = tellF (kidsI G k S4) 2 kid by rw [hkid] at h; rw [HKS.out, HG.out, kidF_none hlt h, hkid])
      have HKV := Lib.hid (fun (pk : TPage) (h : pgAt x kid = some pk) => show kidsI G (k + 1) S4 = visitB x n kid (far + 1) (lowK p low k) (highK p high k) (kidsI G k S4) by rw [hkid] at h; rw [HKS.out, HG.out, kidF_some hlt h, hkid])
      rw [← hkid] at hcK hkc hb1 hb2
      have OT := Lib.hid ot
      have MT := Lib.hid mt
      have RT := Lib.hid Rt
      have Q1r := Lib.hid q1r
      clear Rt ot mt q1r q3r hinsT hpreT hkid hb1 hb2 HKS
      have hinT : (k : Int) < (p.2.2.2.length : Int) := by omega
      have hk0i : (0 : Int) ≤ (k : Int) := by omega
      go_upto_if 108 with fail
      go_cut [13] (fun t wx => t = .string (lowK p low k) ∧ wr = wx)
      case first =>
        by_cases hk0 : k = 0
        · have hki : ¬ (0 : Int) < (k : Int) := by omega
          have HX : Hid (lowK p low k = low) := Lib.hid (if_neg (by omega))
          clear hk0
          go_wp2_with fail
          go_meet
          exact ⟨by rw [HX.out], rfl⟩
        · obtain ⟨m, rfl⟩ : ∃ m, k = m + 1 := ⟨k - 1, by omega⟩
          have hm : m < p.2.1.length := by omega
          have HX : Hid (lowK p low (m + 1) = p.2.1[m]) := Lib.hid (by unfold lowK; rw [if_pos (by omega), Nat.add_sub_cancel]; simp [List.getD, List.getElem?_eq_getElem hm])
          obtain ⟨gs, os, rfl, _, _, hck, _⟩ := Q1r.out.at_S hm
          have hi2' : (0 : Int) < (m : Int) + 1 := by omega
          have hwm : IntKind.i64.wrap (m : Int) = (m : Int) := IntWalk.i64_in _ (by omega)
          have hm0 : (0 : Int) ≤ (m : Int) := by omega
          have hm1 : (m : Int) < (p.2.1.length : Int) := by omega
          go_wp2_with fail
          go_meet
          exact ⟨by rw [HX.out], rfl⟩
      obtain ⟨rfl, rfl⟩ := hcut
      obtain ⟨lk, hlk⟩ : ∃ lk, lk = lowK p low k := ⟨_, rfl⟩
      rw [← hlk]
      rw [← hlk] at HKV
      clear hlk
      go_upto_if 119 with fail
      go_cut [14] (fun t wx => t = .string (highK p high k) ∧ wr = wx)
      case first =>
        by_cases hk1 : k < p.2.1.length
        · have HX : Hid (highK p high k = p.2.1[k]) := Lib.hid (by unfold highK; rw [if_pos hk1]; simp [List.getD, List.getElem?_eq_getElem hk1])
          obtain ⟨gs, os, rfl, _, _, hck, _⟩ := Q1r.out.at_S hk1
          have hm1 : (k : Int) < (p.2.1.length : Int) := by omega
          go_wp2_with fail
          go_meet
          exact ⟨by rw [HX.out], rfl⟩
        · have hki : ¬ (k : Int) < (p.2.1.length : Int) := by omega
          have HX : Hid (highK p high k = high) := Lib.hid (if_neg hk1)
          go_wp2_with fail
          go_meet
          exact ⟨by rw [HX.out], rfl⟩
      obtain ⟨rfl, rfl⟩ := hcut
      obtain ⟨hk', hhk⟩ : ∃ hk', hk' = highK p high k := ⟨_, rfl⟩
      rw [← hhk]
      rw [← hhk] at HKV
      clear hhk gr1
      obtain ⟨nA, hnA, hnA2, hAT⟩ := c_atAny x kid HSL.out
      have HNA := Lib.hid hnA
      have HAT := Lib.hid (fun W (u : Up wr W) => hAT (.agg #[.int .i64 x.1, .slice A0 x.2.length c0]) W ⟨_, rfl, mkBtree (x := x) hr ((SR.wide good_Slot RT.out.sl (Nat.le_refl _) (by have := RT.out.kw.lt; have := RT.out.h1; omega) : SRW shSlot wr A0 c0 x.2).up good_Slot u)⟩)
      have gw0 : wr.cell? ⟨wb, 0, none⟩ = some (.int .i64 x.1) := RT.out.kw.cell 0
      have gw1 : wr.cell? ⟨wb, 1, none⟩ = some (.slice A0 x.2.length c0) := RT.out.kw.cell 1
      clear hnA hAT
      go_upto_region 22 with fail
      go_cut [135] (fun t wx => t = .bool (decide (nA < 0)) ∧ Up wr wx)
      case first =>
        have t0 := fun t : UpT wr => cell_up t gw0
        have t1 := fun t : UpT wr => cell_up t gw1
        have t2 := fun t : UpT wr => cell_up t gr3
        have t3 := fun t : UpT wr => cell_up t hcK
        clear gw0 gw1 gr3 hcK
        refine wp_region_up (by kernel_rfl) (by kernel_rfl) ?_
        repeat (go_big_quiet_step ((first | (go_at_call 104; exact up_call (HAT.out _ (UpT.up _)) (UpT.up _)))))
        refine wpQuiet_nil ?_
        rintro _ ⟨⟨w1, u1⟩, rfl⟩
        go_wp2_with fail
        go_meet
        exact ⟨rfl, u1⟩
      obtain ⟨rfl, u7⟩ := hcut
      obtain ⟨Q7, hQ7⟩ : ∃ Q7, Q7 = wc := ⟨_, rfl⟩
      subst hQ7
      have gr3' : Q7.cell? ⟨w4.heap.size, 3, none⟩ = some (.slice (some ⟨ga, oa, none⟩) p.2.2.2.length c3) := (u7.cell (cell_lt gr3)).trans gr3
      have hcK' := (u7.cell (cell_lt hcK)).trans hcK
      have R7 := RT.out.up u7
      clear gr3 hcK gw0 gw1 HAT kgr
      cases hpk : pgAt x kid with
      | none =>
        have hneg := HNA.out.2 hpk
        rw [decide_eq_true hneg]
        have HE := Lib.hid (HKN.out hpk)
        have CR := Lib.hid (c_tell 2 kid (by decide) ⟨by omega, by omega⟩ R7 hlenT)
        clear hpk hneg HKN HKV R7
        go_wp2_with fail
        refine CR.out.mono ?_
        rintro e w8 ⟨rfl, T8⟩
        go_wp2_with fail
        go_roundw
        case rel => exact ⟨k + 1, by omega, by go_num, Lib.hid (by rw [HE.out]; exact VisT.then OT.out MT.out (T8.from u7))⟩
        case measure => simp [intOf]; omega
      | some pk =>
        have hneg : ¬ nA < 0 := fun h => by have := HNA.out.1 h; rw [hpk] at this; cases this
        rw [decide_eq_false hneg]
        have HE := Lib.hid (HKV.out pk hpk)
        have CALL := Lib.hid (IH kid (F + 1) (far + 1) lk hk' pk (kidsI G k S4) Mt cMt Et cEt bmt bft Q7 ⟨by omega, by omega⟩ (Lib.hid (by have := hF.out; omega)) hpk R7 hinsN.out (by
          have := hpreN.out.length_le
          rw [List.length_append] at this
          simp only [List.length_singleton] at this
          omega) (by omega) (by omega))
        clear hpk hneg HKN HKV R7
        go_wp2_with fail
        refine CALL.out.mono ?_
        rintro e w8 ⟨rfl, T8⟩
        go_wp2_with fail
        go_roundw
        case rel => exact ⟨k + 1, by omega, by go_num, Lib.hid (by rw [HE.out]; exact VisT.then OT.out MT.out (T8.from u7))⟩
        case measure => simp [intOf]; omega
    · obtain rfl : k = p.2.2.2.length := by omega
      have HR := Lib.hid (show r = kidsI G p.2.2.2.length S4 from HW.out)
      have hend : ¬ (p.2.2.2.length : Int) < (p.2.2.2.length : Int) := by omega
      clear Rt ot mt kgr q1r q3r gr1
      go_wp2_with fail
      refine bodyPost_end (v := .tuple #[]) (by simp [results, Tryz.results106, go_sem]) (by rfl) ?_
      exact ⟨rfl, by rw [HR.out]; exact VisT.then O4.out M3'.out HT.out⟩
theorem c_vis {x : TBtree} (hs : SlotsP x.2) (hr : I64 x.1) {lo wb : Nat} {A0 : Option Addr} {c0 : Nat} : ∀ n, VisN x lo wb A0 c0 n
  | 0 => fun id F far low high p s M cM E cE bm bf w hid hF hp R hok hl hf hf1 => vis_twice hs hid R hok (metOk_full hok.1 (by omega) hp)
  | n + 1 => fun id F far low high p s M cM E cE bm bf w hid hF hp R hok hl hf hf1 => by
    cases hc : s.1.contains id
    · exact vis_in hs hr (c_vis hs hr n) hid hF hp R hok hl hf hf1 hc
    · exact vis_twice hs hid R hok hc
end Go.Proofs.YtpjcgglhlmifdaaGreatDoor
