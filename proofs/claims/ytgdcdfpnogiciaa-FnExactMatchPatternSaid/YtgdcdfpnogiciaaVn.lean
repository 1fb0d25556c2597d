/-
  Matching, the program's side: contracts of (matcher).item, all, matches, MatchPattern.
-/
import Derived.Test.YtgdcdfpnogiciaaVm
namespace Go.Proofs.Ytgdcdfpnogiciaa
open Go.RowKit
set_option linter.unusedVariables false
set_option linter.unusedSimpArgs false
/-- How many places are not there. -/
def cntF (G : List Bool) : Nat := (G.filter (fun b => !b)).length
theorem cntF_le (G : List Bool) : cntF G ≤ G.length := List.length_filter_le _ _
theorem cntF_or : ∀ (F G : List Bool), F.length = G.length → cntF (orL F G) ≤ cntF F
  | [], [], _ => Nat.le_refl _
  | [], _ :: _, h => by simp at h
  | _ :: _, [], h => by simp at h
  | x :: xs, y :: ys, h => by
    have ih := cntF_or xs ys (by simpa using h)
    unfold cntF orL at ih ⊢
    cases x <;> cases y <;> simp [List.filter_cons] <;> omega
theorem cntF_lt : ∀ (F G : List Bool) (j : Nat), F.length = G.length → G[j]? = some true → ¬ F[j]? = some true → cntF (orL F G) < cntF F
  | [], [], j, _, h, _ => by simp at h
  | [], _ :: _, j, h, _, _ => by simp at h
  | _ :: _, [], j, h, _, _ => by simp at h
  | x :: xs, y :: ys, j, h, hg, hf => by
    have hl : xs.length = ys.length := by simpa using h
    have ih0 := cntF_or xs ys hl
    cases j with
    | zero =>
      simp at hg hf
      subst hg hf
      unfold cntF orL at ih0 ⊢
      simp [List.filter_cons]
      omega
    | succ j =>
      have ih := cntF_lt xs ys j hl (by simpa using hg) (by simpa using hf)
      unfold cntF orL at ih ⊢
      cases x <;> cases y <;> simp [List.filter_cons] <;> omega
theorem orL_same {F G : List Bool} (h : F.length = G.length) (hs : ∀ j : Nat, G[j]? = some true → F[j]? = some true) : orL F G = F := by
  apply List.ext_getElem?
  intro j
  rcases Nat.lt_or_ge j F.length with hj | hj
  · have h1 := orL_at h j
    obtain ⟨y, hy⟩ := at_of_lt (show j < (orL F G).length by rw [orL_len h]; exact hj)
    obtain ⟨x, hx⟩ := at_of_lt hj
    rw [hy, hx] at h1 ⊢
    have h2 := hs j
    rw [hx] at h2
    cases x
    · cases y
      · rfl
      · rcases h1.1 rfl with h3 | h3
        · cases h3
        · exact absurd (h2 h3) (by simp)
    · rw [h1.2 (.inl rfl)]
  · rw [List.getElem?_eq_none hj, List.getElem?_eq_none (by rw [orL_len h]; exact hj)]

set_option maxRecDepth 100000 in
set_option maxHeartbeats 8000000 in
theorem vi_item {γ : Type} {shQq : Sh γ} (good_Qq : Good shQq) (R : Nat → Nat → Prop) (s : ByteArray) (hs : s.size ≤ 64) (hR : Fwd s.size R) (x0 x1 : Int) (x2 x3 : ByteArray) (x4 : List (List γ)) (v1 : 0 ≤ x0) (v2 : x0 ≤ 99) (v3 : x1 = -1 ∨ x0 ≤ x1) (v4 : x1 ≤ 99)
    (cO : ∀ (v : Value) (F : List Bool) (B : Option Addr) (d : Nat) (w : World), AV (shPattern shQq) w v (x0, x1, x2, x3, x4) → SRW shB w B d F → F.length = s.size + 1 → Calls Try.prog 86 #[.agg #[.string s], v, .slice B F.length d] w (SetR s.size R F w))
    (v : Value) (F : List Bool) (B : Option Addr) (d : Nat) (w : World) (h : AV (shPattern shQq) w v (x0, x1, x2, x3, x4)) (hF : SRW shB w B d F) (hl : F.length = s.size + 1) :
    Calls Try.prog 59 #[.agg #[.string s], v, .slice B F.length d] w (SetR s.size (Ritem R x0 x1) F w) := by
  have HO := Lib.hid cO; clear cO
  have HR := Lib.hid hR; clear hR
  obtain ⟨cs, rfl, h⟩ := h
  have ho := openPattern h
  dsimp only at ho
  obtain ⟨A4, c4, rfl, b0, b1, b2, b3, b4⟩ := ho
  have bl4 := b4.len_le
  have flen : F.length < 100 := by omega
  obtain ⟨n0, hn0⟩ : ∃ n0 : Nat, x0 = (n0 : Int) := ⟨x0.toNat, by omega⟩
  have HN0 := Lib.hid hn0; clear hn0
  have HL := Lib.hid hl; clear hl
  have u0 : Up w ((w.alloc (.cells #[.string s] 74)).alloc (.cells #[.int .i64 x0, .int .i64 x1, .string x2, .string x3, .slice A4 x4.length c4] 51)) := ((Up.refl _).alloc _).alloc _
  have km0 : Bk ((w.alloc (.cells #[.string s] 74)).alloc (.cells #[.int .i64 x0, .int .i64 x1, .string x2, .string x3, .slice A4 x4.length c4] 51)) w.heap.size 74 #[.string s] := (Bk.new _ _ _).alloc _
  have k0 : Bk ((w.alloc (.cells #[.string s] 74)).alloc (.cells #[.int .i64 x0, .int .i64 x1, .string x2, .string x3, .slice A4 x4.length c4] 51)) (w.heap.size + 1) 51 #[.int .i64 x0, .int .i64 x1, .string x2, .string x3, .slice A4 x4.length c4] := by
    have e : (w.alloc (.cells #[.string s] 74)).heap.size = w.heap.size + 1 := by simp
    have := Bk.new (w.alloc (.cells #[.string s] 74)) 51 #[.int .i64 x0, .int .i64 x1, .string x2, .string x3, .slice A4 x4.length c4]
    rw [e] at this
    exact this
  have av0 : ∀ W, Up w W → AV (shPattern shQq) W (.agg #[.int .i64 x0, .int .i64 x1, .string x2, .string x3, .slice A4 x4.length c4]) (x0, x1, x2, x3, x4) := fun W hW => AV.up (good_Pattern good_Qq) ⟨_, rfl, mkPattern (x := (x0, x1, x2, x3, x4)) b0 b1 b2 b3 b4⟩ hW
  have AV0 := Lib.hid av0; clear av0
  go_enter Try.func59, Try.ntmps59
  go_wp2_with fail
  refine (c_CloneBool F B d _ (hF.upB u0) (by omega)).mono ?_
  rintro e wa ⟨Da, da, bla, rfl, hsa, hna, hua⟩
  have hFa : SRW shB wa Da da F := SR.of_own good_B hsa
  have kma := km0.up hua
  have ka := k0.up hua
  have ua := u0.trans hua
  have h0 : wa.cell? ⟨w.heap.size + 1, 0, none⟩ = some (.int .i64 x0) := ka.cell 0
  clear hsa hua
  go_wp2_with fail
  go_loopw [7, 14] (fun cur i wr => ∃ (k : Nat) (G : List Bool) (D : Option Addr) (e : Nat), (k : Int) ≤ x0 ∧ i = .int .i64 k ∧ cur = .slice D G.length e ∧ SRW shB wr D e G ∧ Hid (Set_ s.size (Rpow R k) F G) ∧ Bk wr w.heap.size 74 #[.string s] ∧ Bk wr (w.heap.size + 1) 51 #[.int .i64 x0, .int .i64 x1, .string x2, .string x3, .slice A4 x4.length c4] ∧ Up w wr) (fun _ i _ => (x0 - intOf i).toNat)
  case atStart => exact ⟨0, F, Da, da, v1, rfl, rfl, hFa, Set_.zero HL.out, kma, ka, ua⟩
  case round =>
    clear h0 kma ka ua hFa
    obtain ⟨k, G, D, e, hk, rfl, rfl, hG, hS, kM, kk, uw⟩ := hrel
    have fm : wr.cell? ⟨w.heap.size, 0, none⟩ = some (.string s) := kM.cell 0
    have f0 : wr.cell? ⟨w.heap.size + 1, 0, none⟩ = some (.int .i64 x0) := kk.cell 0
    have f1 : wr.cell? ⟨w.heap.size + 1, 1, none⟩ = some (.int .i64 x1) := kk.cell 1
    have f2 : wr.cell? ⟨w.heap.size + 1, 2, none⟩ = some (.string x2) := kk.cell 2
    have f3 : wr.cell? ⟨w.heap.size + 1, 3, none⟩ = some (.string x3) := kk.cell 3
    have f4 : wr.cell? ⟨w.heap.size + 1, 4, none⟩ = some (.slice A4 x4.length c4) := kk.cell 4
    by_cases hlt : (k : Int) < x0
    · go_wp2_with fail
      refine (HO.out _ G D e _ (AV0.out _ uw) hG hS.out.1).mono ?_
      rintro e1 w1 ⟨D1, d1, G1, rfl, hG1, hS1, u1⟩
      have hN : Hid (Set_ s.size (Rpow R (k + 1)) F G1) := hS.out.next hS1
      clear f0 f1 f2 f3 f4 fm
      go_wp2_with fail
      go_roundw
      case rel => exact ⟨k + 1, G1, D1, d1, by omega, by go_num, rfl, SR.wide good_B hG1 (Nat.zero_le _) (Nat.le_refl _), hN, kM.up u1, kk.up u1, uw.trans u1⟩
      case measure => simp [intOf]; omega
    · have hkn : k = n0 := by have := HN0.out; omega
      subst hkn
      have glen : 0 < G.length := by have := hS.out.1; omega
      have glen2 : G.length ≤ 65 := by have := hS.out.1; omega
      go_wp2_with fail
      refine (c_CloneBool G D e _ hG (by omega)).mono ?_
      rintro ee wn ⟨Dn, dn, bl, rfl, hso, hnd, hun⟩
      obtain ⟨gR, oR, tR, CR, rfl, gR1, gR2, rR, dn1, dn2⟩ := RowB.of_own hso glen
      have gR3 : w.heap.size + 1 < gR := by have := kk.lt; omega
      have kMn := kM.up hun
      have kn := kk.up hun
      have un : Up w wn := uw.trans hun
      have hS0 : Hid (Set_ s.size (Rto R k (k + 0)) F G) := hS.out.start
      have hSp : Hid (Set_ s.size (Rpow R (k + 0)) F G) := hS.out
      have hGn : SRW shB wn D e G := hG.upB hun
      have gls : Hid (G.length = s.size + 1) := hS.out.1
      have h0 : wn.cell? ⟨w.heap.size + 1, 0, none⟩ = some (.int .i64 x0) := kn.cell 0
      have h1 : wn.cell? ⟨w.heap.size + 1, 1, none⟩ = some (.int .i64 x1) := kn.cell 1
      have glen3 : G.length ≤ s.size + 1 := by have := gls.out; omega
      clear hS hso hun hG f0 f1 f2 f3 f4 fm gR1 gR2 kk kM uw
      go_wp2_with fail
      by_cases hx : x1 < 0
      · have hx1 : x1 = -1 := by omega
        have hxe : (x1 == -1) = true := by rw [hx1]; rfl
        have HX1 := Lib.hid hx1; clear hx1
        go_loopg [7, 9] (G.length + 1) (fun gf cur i wr => ∃ (m : Nat) (F1 : List Bool) (D1 : Option Addr) (e1 : Nat) (C1 : Array Value) (G1 : List Bool), (cntF G1 < gf ∧ m + cntF G1 ≤ G.length) ∧ i = .int .i64 (x0 + m) ∧ cur = .slice D1 F1.length e1 ∧ SRW shB wr D1 e1 F1 ∧ Hid (Set_ s.size (Rpow R (k + m)) F F1) ∧ RowB wr gR oR tR C1 G1 ∧ Hid (Set_ s.size (Rto R k (k + m)) F G1) ∧ Bk wr w.heap.size 74 #[.string s] ∧ Bk wr (w.heap.size + 1) 51 #[.int .i64 x0, .int .i64 x1, .string x2, .string x3, .slice A4 x4.length c4] ∧ Up w wr)
        case atStart => exact ⟨0, G, D, e, CR, G, ⟨by have := cntF_le G; omega, by have := cntF_le G; omega⟩, by simp, rfl, hGn, hSp, rR, hS0, kMn, kn, un⟩
        case round =>
          obtain ⟨m, F1, D1, e1, C1, G1, hm, rfl, rfl, hF1, hS1, r1, hT1, kM, kk, uw⟩ := hrel
          have fm : wr.cell? ⟨w.heap.size, 0, none⟩ = some (.string s) := kM.cell 0
          have f0 : wr.cell? ⟨w.heap.size + 1, 0, none⟩ = some (.int .i64 x0) := kk.cell 0
          have f1 : wr.cell? ⟨w.heap.size + 1, 1, none⟩ = some (.int .i64 x1) := kk.cell 1
          have f2 : wr.cell? ⟨w.heap.size + 1, 2, none⟩ = some (.string x2) := kk.cell 2
          have f3 : wr.cell? ⟨w.heap.size + 1, 3, none⟩ = some (.string x3) := kk.cell 3
          have f4 : wr.cell? ⟨w.heap.size + 1, 4, none⟩ = some (.slice A4 x4.length c4) := kk.cell 4
          have hlt2 : ¬ x0 + (m : Int) < x1 := by omega
          have hltd : decide (x0 + (m : Int) < x1) = false := decide_eq_false hlt2
          go_wp2_with fail
          refine (HO.out _ F1 D1 e1 _ (AV0.out _ uw) hF1 hS1.out.1).mono ?_
          rintro ee wc ⟨D2, d2, E, rfl, hE, hS2, uc⟩
          have hN1 : Hid (Set_ s.size (Rpow R (k + (m + 1))) F E) := hS1.out.next hS2
          have rc := r1.up uc
          have kc := kk.up uc
          have kMc := kM.up uc
          have glt := r1.1.lt
          have HGE : Hid (G1.length = E.length) := hT1.out.1.trans hS2.1.symm
          have hG1n : G1.length ≤ 100 := by have := hT1.out.1; omega
          have cj := vc_join gR oR tR C1 G1 E D2 dn d2 wr.heap.size wc.heap.size wc HGE.out hG1n rc hE glt
          rw [hT1.out.1, ← gls.out] at cj
          have CJ := Lib.hid cj; clear cj
          clear f0 f1 f2 f3 f4 fm
          go_wp2_with fail
          refine CJ.out.mono ?_
          rintro ee wj ⟨bj, Cj, rfl, hbut, rj, hbj⟩
          have kMj := kMc.but hbut (by omega)
          have kj := kc.but hbut (by omega)
          have uj := (uw.trans uc).but hbut (by omega)
          have g1 : wj.cell? ⟨w.heap.size + 1, 1, none⟩ = some (.int .i64 x1) := kj.cell 1
          have hN2 : Hid (Set_ s.size (Rto R k (k + (m + 1))) F (orL G1 E)) := Set_.more (lo := k) (k := k + m) (by omega) hT1.out hN1.out
          have hE2 : SRW shB wj D2 d2 E := SR.wide good_B (hE.keep good_B (hbut.keepB (by omega))) (Nat.zero_le _) (by rw [hbut.size]; exact Nat.le_refl _)
          have esp : x0 + (m : Int) + 1 = x0 + ((m + 1 : Nat) : Int) := by omega
          have ESP := Lib.hid esp; clear esp
          cases bj
          · have hfin : Hid (Set_ s.size (Ritem R x0 x1) F (orL G1 E)) := by
              have hsub : ∀ j : Nat, E[j]? = some true → G1[j]? = some true := fun j hj => Classical.byContradiction fun hn => by
                have := hbj.2 ⟨j, hj, hn⟩
                cases this
              have hsame : orL G1 E = G1 := orL_same HGE.out hsub
              unfold Hid
              rw [hsame]
              exact Set_.open_end (l := k) HN0.out (by omega) (Set_.closed (k := k + m) (by omega) hT1.out hN1.out hsub)
            have hr := rj.sr (lo := w.heap.size) (c := dn) (by omega) (by rw [hN2.out.1, ← gls.out]; exact dn1) dn2
            clear hbj
            go_wp2_with fail
            go_ret
            exact SetR.mk gls.out hfin.out hr uj
          · have hsm : cntF (orL G1 E) < cntF G1 := by
              obtain ⟨j, h1, h2⟩ := hbj.1 rfl
              exact cntF_lt _ _ j HGE.out h1 h2
            obtain ⟨gk', rfl⟩ : ∃ g', gk = g' + 1 := ⟨gk - 1, by omega⟩
            clear hbj
            go_wp2_with fail
            go_roundg gk'
            case measure => omega
            case rel => exact ⟨m + 1, E, D2, d2, Cj, orL G1 E, ⟨by omega, by omega⟩, by first | rw [← ESP.out] | (rw [ESP.out]), rfl, hE2, hN1, rj, hN2, kMj, kj, uj⟩
      · have v5 : x0 ≤ x1 := by omega
        have hxe : (x1 == -1) = false := by rw [beq_eq_false_iff_ne]; omega
        go_loopw [7, 9] (fun cur i wr => ∃ (m : Nat) (F1 : List Bool) (D1 : Option Addr) (e1 : Nat) (C1 : Array Value) (G1 : List Bool), (x0 + (m : Int) ≤ x1) ∧ i = .int .i64 (x0 + m) ∧ cur = .slice D1 F1.length e1 ∧ SRW shB wr D1 e1 F1 ∧ Hid (Set_ s.size (Rpow R (k + m)) F F1) ∧ RowB wr gR oR tR C1 G1 ∧ Hid (Set_ s.size (Rto R k (k + m)) F G1) ∧ Bk wr w.heap.size 74 #[.string s] ∧ Bk wr (w.heap.size + 1) 51 #[.int .i64 x0, .int .i64 x1, .string x2, .string x3, .slice A4 x4.length c4] ∧ Up w wr) (fun _ i _ => (x1 - intOf i).toNat)
        case atStart => exact ⟨0, G, D, e, CR, G, by omega, by simp, rfl, hGn, hSp, rR, hS0, kMn, kn, un⟩
        case round =>
          obtain ⟨m, F1, D1, e1, C1, G1, hm, rfl, rfl, hF1, hS1, r1, hT1, kM, kk, uw⟩ := hrel
          have fm : wr.cell? ⟨w.heap.size, 0, none⟩ = some (.string s) := kM.cell 0
          have f0 : wr.cell? ⟨w.heap.size + 1, 0, none⟩ = some (.int .i64 x0) := kk.cell 0
          have f1 : wr.cell? ⟨w.heap.size + 1, 1, none⟩ = some (.int .i64 x1) := kk.cell 1
          have f2 : wr.cell? ⟨w.heap.size + 1, 2, none⟩ = some (.string x2) := kk.cell 2
          have f3 : wr.cell? ⟨w.heap.size + 1, 3, none⟩ = some (.string x3) := kk.cell 3
          have f4 : wr.cell? ⟨w.heap.size + 1, 4, none⟩ = some (.slice A4 x4.length c4) := kk.cell 4
          by_cases hlt : x0 + (m : Int) < x1
          · skip
            go_wp2_with fail
            refine (HO.out _ F1 D1 e1 _ (AV0.out _ uw) hF1 hS1.out.1).mono ?_
            rintro ee wc ⟨D2, d2, E, rfl, hE, hS2, uc⟩
            have hN1 : Hid (Set_ s.size (Rpow R (k + (m + 1))) F E) := hS1.out.next hS2
            have rc := r1.up uc
            have kc := kk.up uc
            have kMc := kM.up uc
            have glt := r1.1.lt
            have HGE : Hid (G1.length = E.length) := hT1.out.1.trans hS2.1.symm
            have hG1n : G1.length ≤ 100 := by have := hT1.out.1; omega
            have cj := vc_join gR oR tR C1 G1 E D2 dn d2 wr.heap.size wc.heap.size wc HGE.out hG1n rc hE glt
            rw [hT1.out.1, ← gls.out] at cj
            have CJ := Lib.hid cj; clear cj
            clear f0 f1 f2 f3 f4 fm
            go_wp2_with fail
            refine CJ.out.mono ?_
            rintro ee wj ⟨bj, Cj, rfl, hbut, rj, hbj⟩
            have kMj := kMc.but hbut (by omega)
            have kj := kc.but hbut (by omega)
            have uj := (uw.trans uc).but hbut (by omega)
            have g1 : wj.cell? ⟨w.heap.size + 1, 1, none⟩ = some (.int .i64 x1) := kj.cell 1
            have hN2 : Hid (Set_ s.size (Rto R k (k + (m + 1))) F (orL G1 E)) := Set_.more (lo := k) (k := k + m) (by omega) hT1.out hN1.out
            have hE2 : SRW shB wj D2 d2 E := SR.wide good_B (hE.keep good_B (hbut.keepB (by omega))) (Nat.zero_le _) (by rw [hbut.size]; exact Nat.le_refl _)
            have esp : x0 + (m : Int) + 1 = x0 + ((m + 1 : Nat) : Int) := by omega
            have ESP := Lib.hid esp; clear esp
            clear hbj
            cases bj
            all_goals
              go_wp2_with fail
              go_roundw
              case rel => exact ⟨m + 1, E, D2, d2, Cj, orL G1 E, by omega, by first | rw [← ESP.out] | (rw [ESP.out]), rfl, hE2, hN1, rj, hN2, kMj, kj, uj⟩
              case measure => simp [intOf]; omega
          · have hltd : decide (x0 + (m : Int) < x1) = false := decide_eq_false hlt
            have hfin : Hid (Set_ s.size (Ritem R x0 x1) F G1) := Set_.to_end (l := k) (k := k + m) HN0.out (by have := HN0.out; omega) hT1.out
            have hr := r1.sr (lo := w.heap.size) (c := dn) (by omega) (by rw [hT1.out.1, ← gls.out]; exact dn1) dn2
            go_wp2_with fail
            go_ret
            exact SetR.mk gls.out hfin.out hr uw

end Go.Proofs.Ytgdcdfpnogiciaa
