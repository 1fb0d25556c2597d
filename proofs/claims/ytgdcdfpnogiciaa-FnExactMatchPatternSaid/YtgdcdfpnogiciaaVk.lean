/-
  Matching: contracts of the reference's l04Item2, l04Ends, l04Match.
-/
import Derived.Test.YtgdcdfpnogiciaaVj
namespace Go.Proofs.Ytgdcdfpnogiciaa
open Go.RowKit
set_option linter.unusedVariables false
set_option linter.unusedSimpArgs false
theorem cinfo_boolV : (Try.prog.info? 4).map (fun i => (i.zero, i.size, i.bytes)) = some (some (.bool false), 1, 1) := by kernel_rfl

set_option maxRecDepth 100000 in
set_option maxHeartbeats 8000000 in
theorem vc_item2 {γ : Type} {shQq : Sh γ} (good_Qq : Good shQq) (R : Nat → Nat → Prop) (s : ByteArray) (hs : s.size ≤ 64) (hR : Fwd s.size R) (x0 x1 : Int) (x2 x3 : ByteArray) (x4 : List (List γ)) (v1 : 0 ≤ x0) (v2 : x0 ≤ 99) (v3 : x1 = -1 ∨ x0 ≤ x1) (v4 : x1 ≤ 99)
    (cO : ∀ (v : Value) (F : List Bool) (B : Option Addr) (d : Nat) (w : World), AV (shPattern shQq) w v (x0, x1, x2, x3, x4) → SRW shB w B d F → F.length = s.size + 1 → Calls Try.prog 80 #[.string s, v, .slice B F.length d] w (SetR s.size R F w))
    (v : Value) (F : List Bool) (B : Option Addr) (d : Nat) (w : World) (h : AV (shPattern shQq) w v (x0, x1, x2, x3, x4)) (hF : SRW shB w B d F) (hl : F.length = s.size + 1) :
    Calls Try.prog 54 #[.string s, v, .slice B F.length d] w (SetR s.size (Ritem R x0 x1) F w) := by
  have HO := Lib.hid cO; clear cO
  have HR := Lib.hid hR; clear hR
  obtain ⟨cs, rfl, h⟩ := h
  have ho := openPattern h
  dsimp only at ho
  obtain ⟨A4, c4, rfl, b0, b1, b2, b3, b4⟩ := ho
  have bl4 := b4.len_le
  have flen : F.length < 100 := by omega
  obtain ⟨n0, hn0⟩ : ∃ n0 : Nat, x0 = (n0 : Int) := ⟨x0.toNat, by omega⟩
  have HN0 := Lib.hid hn0; clear hn0
  have HL := Lib.hid hl; clear hl
  have u0 : Up w (w.alloc (.cells #[.int .i64 x0, .int .i64 x1, .string x2, .string x3, .slice A4 x4.length c4] 51)) := (Up.refl _).alloc _
  have k0 : Bk (w.alloc (.cells #[.int .i64 x0, .int .i64 x1, .string x2, .string x3, .slice A4 x4.length c4] 51)) w.heap.size 51 #[.int .i64 x0, .int .i64 x1, .string x2, .string x3, .slice A4 x4.length c4] := Bk.new _ _ _
  have av0 : ∀ W, Up w W → AV (shPattern shQq) W (.agg #[.int .i64 x0, .int .i64 x1, .string x2, .string x3, .slice A4 x4.length c4]) (x0, x1, x2, x3, x4) := fun W hW => AV.up (good_Pattern good_Qq) ⟨_, rfl, mkPattern (x := (x0, x1, x2, x3, x4)) b0 b1 b2 b3 b4⟩ hW
  have AV0 := Lib.hid av0; clear av0
  obtain ⟨i0, hi0, hz0, hz1, hz2⟩ := info_parts cinfo_boolV
  go_enter Try.func54, Try.ntmps54
  go_wp2_with fail
  go_loopw [7, 8] (fun cur i wr => ∃ (k : Nat) (G : List Bool) (D : Option Addr) (e : Nat), (k : Int) ≤ x0 ∧ i = .int .i64 k ∧ cur = .slice D G.length e ∧ SRW shB wr D e G ∧ Hid (Set_ s.size (Rpow R k) F G) ∧ Bk wr w.heap.size 51 #[.int .i64 x0, .int .i64 x1, .string x2, .string x3, .slice A4 x4.length c4] ∧ Up w wr) (fun _ i _ => (x0 - intOf i).toNat)
  case atStart => exact ⟨0, F, B, d, v1, rfl, rfl, hF.upB u0, Set_.zero HL.out, k0, u0⟩
  case round =>
    obtain ⟨k, G, D, e, hk, rfl, rfl, hG, hS, kk, uw⟩ := hrel
    have f0 : wr.cell? ⟨w.heap.size, 0, none⟩ = some (.int .i64 x0) := kk.cell 0
    have f1 : wr.cell? ⟨w.heap.size, 1, none⟩ = some (.int .i64 x1) := kk.cell 1
    have f2 : wr.cell? ⟨w.heap.size, 2, none⟩ = some (.string x2) := kk.cell 2
    have f3 : wr.cell? ⟨w.heap.size, 3, none⟩ = some (.string x3) := kk.cell 3
    have f4 : wr.cell? ⟨w.heap.size, 4, none⟩ = some (.slice A4 x4.length c4) := kk.cell 4
    by_cases hlt : (k : Int) < x0
    · go_wp2_with fail
      refine (HO.out _ G D e _ (AV0.out _ uw) hG hS.out.1).mono ?_
      rintro e1 w1 ⟨D1, d1, G1, rfl, hG1, hS1, u1⟩
      have hN : Hid (Set_ s.size (Rpow R (k + 1)) F G1) := hS.out.next hS1
      clear f0 f1 f2 f3 f4
      go_wp2_with fail
      go_roundw
      case rel => exact ⟨k + 1, G1, D1, d1, by omega, by go_num, rfl, SR.wide good_B hG1 (Nat.zero_le _) (Nat.le_refl _), hN, kk.up u1, uw.trans u1⟩
      case measure => simp [intOf]; omega
    · have hkn : k = n0 := by have := HN0.out; omega
      subst hkn
      have glen : 0 < G.length := by have := hS.out.1; omega
      have glen2 : G.length ≤ 65 := by have := hS.out.1; omega
      by_cases hx : x1 < 0
      · have hxd : decide (x1 < 0) = true := decide_eq_true hx
        go_wp2_with (first
          | (at_builtin
             refine wpList_app_new good_B flat_B rfl _ _ _ 4 rfl i0 _ Try.underlying69 hi0 hz0 hz1 (by rfl) rfl rfl (hG.upB ((Up.refl wr).alloc _)) (by rw [hz2]; omega) ?_
             intro Dn dn bl wn hso hnd hun
             have kn : Bk wn w.heap.size 51 #[.int .i64 x0, .int .i64 x1, .string x2, .string x3, .slice A4 x4.length c4] := (kk.alloc _).up hun
             have h0 : wn.cell? ⟨w.heap.size, 0, none⟩ = some (.int .i64 x0) := kn.cell 0
             have h1 : wn.cell? ⟨w.heap.size, 1, none⟩ = some (.int .i64 x1) := kn.cell 1
             have h2 : wn.cell? ⟨w.heap.size, 2, none⟩ = some (.string x2) := kn.cell 2
             have h3 : wn.cell? ⟨w.heap.size, 3, none⟩ = some (.string x3) := kn.cell 3
             have h4 : wn.cell? ⟨w.heap.size, 4, none⟩ = some (.slice A4 x4.length c4) := kn.cell 4))
        obtain ⟨gR, oR, tR, CR, rfl, gR1, gR2, rR, dn1, dn2⟩ := RowB.of_own hso glen
        have gR3 : w.heap.size < gR := by have := kk.lt; simp at gR1; omega
        have un : Up w wn := (uw.alloc _).trans hun
        have hS0 : Hid (Set_ s.size (Rto R k (k + 0)) F G) := hS.out.start
        have hSp : Hid (Set_ s.size (Rpow R (k + 0)) F G) := hS.out
        have hGn : SRW shB wn D e G := (hG.upB ((Up.refl wr).alloc _)).upB hun
        have n0 : w.heap.size < wn.heap.size := by omega
        have gls : Hid (G.length = s.size + 1) := hS.out.1
        clear hS hso hun hG f0 f1 f2 f3 f4 gR1 gR2 kk uw
        go_loopw [7, 11] (fun cur i wr => ∃ (m : Nat) (F1 : List Bool) (D1 : Option Addr) (e1 : Nat) (C1 : Array Value) (G1 : List Bool), (m : Int) ≤ (s.size : Int) ∧ i = .int .i64 m ∧ cur = .slice D1 F1.length e1 ∧ SRW shB wr D1 e1 F1 ∧ Hid (Set_ s.size (Rpow R (k + m)) F F1) ∧ RowB wr gR oR tR C1 G1 ∧ Hid (Set_ s.size (Rto R k (k + m)) F G1) ∧ Bk wr w.heap.size 51 #[.int .i64 x0, .int .i64 x1, .string x2, .string x3, .slice A4 x4.length c4] ∧ Up w wr) (fun _ i _ => ((s.size : Int) - intOf i).toNat)
        case atStart => exact ⟨0, G, D, e, CR, G, by omega, rfl, rfl, hGn, hSp, rR, hS0, kn, un⟩
        case round =>
          obtain ⟨m, F1, D1, e1, C1, G1, hm, rfl, rfl, hF1, hS1, r1, hT1, kk, uw⟩ := hrel
          have f0 : wr.cell? ⟨w.heap.size, 0, none⟩ = some (.int .i64 x0) := kk.cell 0
          have f1 : wr.cell? ⟨w.heap.size, 1, none⟩ = some (.int .i64 x1) := kk.cell 1
          have f2 : wr.cell? ⟨w.heap.size, 2, none⟩ = some (.string x2) := kk.cell 2
          have f3 : wr.cell? ⟨w.heap.size, 3, none⟩ = some (.string x3) := kk.cell 3
          have f4 : wr.cell? ⟨w.heap.size, 4, none⟩ = some (.slice A4 x4.length c4) := kk.cell 4
          by_cases hlt : (m : Int) < (s.size : Int)
          · go_wp2_with fail
            refine (HO.out _ F1 D1 e1 _ (AV0.out _ uw) hF1 hS1.out.1).mono ?_
            rintro ee wc ⟨D2, d2, E, rfl, hE, hS2, uc⟩
            have hN1 : Hid (Set_ s.size (Rpow R (k + (m + 1))) F E) := hS1.out.next hS2
            have rc := r1.up uc
            have kc := kk.up uc
            have glt := r1.1.lt
            have HGE : Hid (G1.length = E.length) := hT1.out.1.trans hS2.1.symm
            have hGs : G1.length ≤ G.length := by have := hT1.out.1; have := gls.out; omega
            have hGs' : G.length ≤ G1.length := by have := hT1.out.1; have := gls.out; omega
            have hEs' : G.length ≤ E.length := by have := HGE.out; omega
            clear f0 f1 f2 f3 f4
            obtain ⟨wo, rfl⟩ : ∃ wo : World, wo = wr := ⟨_, rfl⟩
            go_wp2_with fail
            go_loopw [12] (fun i wr => ∃ (q : Nat) (C' : Array Value), q ≤ G.length ∧ i = .int .i64 q ∧ RowB wr gR oR tR C' (mixB G1 E q) ∧ But gR wc wr) (fun i _ => G.length - (intOf i).toNat)
            case atStart => exact ⟨0, C1, by omega, rfl, by rw [mixB_zero]; exact rc, But.refl _ _⟩
            case round =>
              obtain ⟨q, C', hq, rfl, rq, bq⟩ := hrel
              by_cases hql : q < G.length
              · have hqE : q < E.length := by omega
                have hq1 : q < G1.length := by omega
                obtain ⟨x, hx'⟩ := at_of_lt hq1
                obtain ⟨y, hy⟩ := at_of_lt hqE
                have m1 := rq.cellq ((mixB_at HGE.out hq1).trans hx')
                have m2 := rq.1.frozen (oR + q)
                have hE2 : SR shB wr wo.heap.size wc.heap.size D2 d2 E := hE.keep good_B (bq.keepB (by omega))
                obtain ⟨gE, oE, rfl, gE1, gE2, m3⟩ := hE2.at_B hqE
                have hEq : E[q] = y := by rw [List.getElem?_eq_getElem hqE] at hy; injection hy
                rw [hEq] at m3
                have rn := rq.set (i := q) (by rw [mixB_len HGE.out (by omega)]; exact hq1) (x || y)
                rw [set0_or HGE.out hq1 hx' hy] at rn
                have bn := bq.trans (But.set wr gR (oR + q) (.bool (x || y)))
                clear hEq hx' hy hE2
                cases x <;> cases y
                all_goals
                  simp only [Bool.or_false, Bool.or_true, Bool.true_or, Bool.false_or] at rn bn
                  go_wp2_with fail
                  go_roundw
                  case rel => exact ⟨q + 1, _, by omega, by go_num, rn, bn⟩
                  case measure => simp [intOf]; omega
              · have rn : RowB wr gR oR tR C' (orL G1 E) := by rw [← mixB_all (q := q) HGE.out (by omega)]; exact rq
                have hN2 : Hid (Set_ s.size (Rto R k (k + (m + 1))) F (orL G1 E)) := Set_.more (lo := k) (k := k + m) (by omega) hT1.out hN1.out
                have hE2 : SRW shB wr D2 d2 E := SR.wide good_B (hE.keep good_B (bq.keepB (by omega))) (Nat.zero_le _) (by rw [bq.size]; exact Nat.le_refl _)
                go_wp2_with fail
                go_roundw
                case rel => exact ⟨m + 1, E, D2, d2, C', orL G1 E, by omega, by go_num, rfl, hE2, hN1, rn, hN2, kc.but bq (by omega), (uw.trans uc).but bq (by omega)⟩
                case measure => simp [intOf]; omega
          · have hfin : Hid (Set_ s.size (Ritem R x0 x1) F G1) := Set_.size_end (l := k) HN0.out hx HR.out HL.out (by have := hT1.out; have e : m = s.size := (by omega); rw [e] at this; exact this)
            have hr := r1.sr (lo := w.heap.size) (c := dn) (by omega) (by rw [hT1.out.1, ← gls.out]; exact dn1) dn2
            go_wp2_with fail
            go_ret
            exact SetR.mk gls.out hfin.out hr uw
      · have hxd : decide (x1 < 0) = false := decide_eq_false hx
        have v5 : x0 ≤ x1 := by omega
        go_wp2_with (first
          | (at_builtin
             refine wpList_app_new good_B flat_B rfl _ _ _ 4 rfl i0 _ Try.underlying69 hi0 hz0 hz1 (by rfl) rfl rfl (hG.upB ((Up.refl wr).alloc _)) (by rw [hz2]; omega) ?_
             intro Dn dn bl wn hso hnd hun
             have kn : Bk wn w.heap.size 51 #[.int .i64 x0, .int .i64 x1, .string x2, .string x3, .slice A4 x4.length c4] := (kk.alloc _).up hun
             have h0 : wn.cell? ⟨w.heap.size, 0, none⟩ = some (.int .i64 x0) := kn.cell 0
             have h1 : wn.cell? ⟨w.heap.size, 1, none⟩ = some (.int .i64 x1) := kn.cell 1
             have h2 : wn.cell? ⟨w.heap.size, 2, none⟩ = some (.string x2) := kn.cell 2
             have h3 : wn.cell? ⟨w.heap.size, 3, none⟩ = some (.string x3) := kn.cell 3
             have h4 : wn.cell? ⟨w.heap.size, 4, none⟩ = some (.slice A4 x4.length c4) := kn.cell 4))
        obtain ⟨gR, oR, tR, CR, rfl, gR1, gR2, rR, dn1, dn2⟩ := RowB.of_own hso glen
        have gR3 : w.heap.size < gR := by have := kk.lt; simp at gR1; omega
        have un : Up w wn := (uw.alloc _).trans hun
        have hS0 : Hid (Set_ s.size (Rto R k (k + 0)) F G) := hS.out.start
        have hSp : Hid (Set_ s.size (Rpow R (k + 0)) F G) := hS.out
        have hGn : SRW shB wn D e G := (hG.upB ((Up.refl wr).alloc _)).upB hun
        have n0 : w.heap.size < wn.heap.size := by omega
        have gls : Hid (G.length = s.size + 1) := hS.out.1
        clear hS hso hun hG f0 f1 f2 f3 f4 gR1 gR2 kk uw
        go_loopw [7, 11] (fun cur i wr => ∃ (m : Nat) (F1 : List Bool) (D1 : Option Addr) (e1 : Nat) (C1 : Array Value) (G1 : List Bool), (m : Int) ≤ (x1 - x0) ∧ i = .int .i64 m ∧ cur = .slice D1 F1.length e1 ∧ SRW shB wr D1 e1 F1 ∧ Hid (Set_ s.size (Rpow R (k + m)) F F1) ∧ RowB wr gR oR tR C1 G1 ∧ Hid (Set_ s.size (Rto R k (k + m)) F G1) ∧ Bk wr w.heap.size 51 #[.int .i64 x0, .int .i64 x1, .string x2, .string x3, .slice A4 x4.length c4] ∧ Up w wr) (fun _ i _ => ((x1 - x0) - intOf i).toNat)
        case atStart => exact ⟨0, G, D, e, CR, G, by omega, rfl, rfl, hGn, hSp, rR, hS0, kn, un⟩
        case round =>
          obtain ⟨m, F1, D1, e1, C1, G1, hm, rfl, rfl, hF1, hS1, r1, hT1, kk, uw⟩ := hrel
          have f0 : wr.cell? ⟨w.heap.size, 0, none⟩ = some (.int .i64 x0) := kk.cell 0
          have f1 : wr.cell? ⟨w.heap.size, 1, none⟩ = some (.int .i64 x1) := kk.cell 1
          have f2 : wr.cell? ⟨w.heap.size, 2, none⟩ = some (.string x2) := kk.cell 2
          have f3 : wr.cell? ⟨w.heap.size, 3, none⟩ = some (.string x3) := kk.cell 3
          have f4 : wr.cell? ⟨w.heap.size, 4, none⟩ = some (.slice A4 x4.length c4) := kk.cell 4
          by_cases hlt : (m : Int) < (x1 - x0)
          · go_wp2_with fail
            refine (HO.out _ F1 D1 e1 _ (AV0.out _ uw) hF1 hS1.out.1).mono ?_
            rintro ee wc ⟨D2, d2, E, rfl, hE, hS2, uc⟩
            have hN1 : Hid (Set_ s.size (Rpow R (k + (m + 1))) F E) := hS1.out.next hS2
            have rc := r1.up uc
            have kc := kk.up uc
            have glt := r1.1.lt
            have HGE : Hid (G1.length = E.length) := hT1.out.1.trans hS2.1.symm
            have hGs : G1.length ≤ G.length := by have := hT1.out.1; have := gls.out; omega
            have hGs' : G.length ≤ G1.length := by have := hT1.out.1; have := gls.out; omega
            have hEs' : G.length ≤ E.length := by have := HGE.out; omega
            clear f0 f1 f2 f3 f4
            obtain ⟨wo, rfl⟩ : ∃ wo : World, wo = wr := ⟨_, rfl⟩
            go_wp2_with fail
            go_loopw [12] (fun i wr => ∃ (q : Nat) (C' : Array Value), q ≤ G.length ∧ i = .int .i64 q ∧ RowB wr gR oR tR C' (mixB G1 E q) ∧ But gR wc wr) (fun i _ => G.length - (intOf i).toNat)
            case atStart => exact ⟨0, C1, by omega, rfl, by rw [mixB_zero]; exact rc, But.refl _ _⟩
            case round =>
              obtain ⟨q, C', hq, rfl, rq, bq⟩ := hrel
              by_cases hql : q < G.length
              · have hqE : q < E.length := by omega
                have hq1 : q < G1.length := by omega
                obtain ⟨x, hx'⟩ := at_of_lt hq1
                obtain ⟨y, hy⟩ := at_of_lt hqE
                have m1 := rq.cellq ((mixB_at HGE.out hq1).trans hx')
                have m2 := rq.1.frozen (oR + q)
                have hE2 : SR shB wr wo.heap.size wc.heap.size D2 d2 E := hE.keep good_B (bq.keepB (by omega))
                obtain ⟨gE, oE, rfl, gE1, gE2, m3⟩ := hE2.at_B hqE
                have hEq : E[q] = y := by rw [List.getElem?_eq_getElem hqE] at hy; injection hy
                rw [hEq] at m3
                have rn := rq.set (i := q) (by rw [mixB_len HGE.out (by omega)]; exact hq1) (x || y)
                rw [set0_or HGE.out hq1 hx' hy] at rn
                have bn := bq.trans (But.set wr gR (oR + q) (.bool (x || y)))
                clear hEq hx' hy hE2
                cases x <;> cases y
                all_goals
                  simp only [Bool.or_false, Bool.or_true, Bool.true_or, Bool.false_or] at rn bn
                  go_wp2_with fail
                  go_roundw
                  case rel => exact ⟨q + 1, _, by omega, by go_num, rn, bn⟩
                  case measure => simp [intOf]; omega
              · have rn : RowB wr gR oR tR C' (orL G1 E) := by rw [← mixB_all (q := q) HGE.out (by omega)]; exact rq
                have hN2 : Hid (Set_ s.size (Rto R k (k + (m + 1))) F (orL G1 E)) := Set_.more (lo := k) (k := k + m) (by omega) hT1.out hN1.out
                have hE2 : SRW shB wr D2 d2 E := SR.wide good_B (hE.keep good_B (bq.keepB (by omega))) (Nat.zero_le _) (by rw [bq.size]; exact Nat.le_refl _)
                go_wp2_with fail
                go_roundw
                case rel => exact ⟨m + 1, E, D2, d2, C', orL G1 E, by omega, by go_num, rfl, hE2, hN1, rn, hN2, kc.but bq (by omega), (uw.trans uc).but bq (by omega)⟩
                case measure => simp [intOf]; omega
          · have hfin : Hid (Set_ s.size (Ritem R x0 x1) F G1) := Set_.to_end (l := k) (k := k + m) HN0.out (by have := HN0.out; omega) hT1.out
            have hr := r1.sr (lo := w.heap.size) (c := dn) (by omega) (by rw [hT1.out.1, ← gls.out]; exact dn1) dn2
            go_wp2_with fail
            go_ret
            exact SetR.mk gls.out hfin.out hr uw


theorem Ronce_fwdX {γ : Type} {A : List γ → Nat → Nat → Prop} {s : ByteArray} (x : TPattern γ) (h : ∀ l ∈ altsV x, Fwd s.size (A l)) : Fwd s.size (Ronce A s x) := Ronce_fwd h
/-- One item, whatever it is. -/
theorem vc_once {γ : Type} {shQq : Sh γ} (good_Qq : Good shQq) (okA : List γ → Int → Bool) (A : List γ → Nat → Nat → Prop) (s : ByteArray) (hs : s.size ≤ 64) (x : TPattern γ) (deep : Int) (hx : itemP okA x deep)
    (cE : ∀ (l : List γ) (Ad : Option Addr) (c : Nat) (F : List Bool) (B : Option Addr) (d : Nat) (w : World), okA l (deep - 1) = true → SRW shQq w Ad c l → SRW shB w B d F → F.length = s.size + 1 → Calls Try.prog 36 #[.string s, .slice Ad l.length c, .slice B F.length d] w (SetR s.size (A l) F w))
    (v : Value) (F : List Bool) (B : Option Addr) (d : Nat) (w : World) (h : AV (shPattern shQq) w v x) (hF : SRW shB w B d F) (hl : F.length = s.size + 1) :
    Calls Try.prog 80 #[.string s, v, .slice B F.length d] w (SetR s.size (Ronce A s x) F w) := by
  obtain ⟨x0, x1, x2, x3, x4⟩ := x
  obtain ⟨_, _, _, _, h5, _, hb⟩ := hx
  have h5 : x3.size ≤ 24 := h5
  unfold bodyP at hb
  by_cases a4 : 0 < x4.length
  · rw [if_pos a4] at hb
    exact vc_onceAlts A s x0 x1 x2 x3 x4 good_Qq hs a4 (fun l Ad c F B d w hl => cE l Ad c F B d w (hb.2.2.2 l hl)) v F B d w h hF hl
  · by_cases a3 : 0 < x3.size
    · exact vc_onceText A s x0 x1 x2 x3 x4 good_Qq hs (by omega) a3 h5 v F B d w h hF hl
    · exact vc_onceCodes A s x0 x1 x2 x3 x4 good_Qq hs (by omega) (by omega) v F B d w h hF hl

set_option maxRecDepth 100000 in
set_option maxHeartbeats 4000000 in
theorem vc_ends {γ : Type} {shQq : Sh γ} (good_Qq : Good shQq) (I : TPattern γ → Nat → Nat → Prop) (s : ByteArray) (xs : List (TPattern γ)) (h1 : 1 ≤ xs.length)
    (A : Option Addr) (c : Nat) (F : List Bool) (B : Option Addr) (d : Nat) (w : World) (h : SRW (shPattern shQq) w A c xs) (hF : SRW shB w B d F) (hl : F.length = s.size + 1)
    (cI : ∀ (v : Value) (x : TPattern γ) (F : List Bool) (B : Option Addr) (d : Nat) (w : World), x ∈ xs → AV (shPattern shQq) w v x → SRW shB w B d F → F.length = s.size + 1 → Calls Try.prog 54 #[.string s, v, .slice B F.length d] w (SetR s.size (I x) F w)) :
    Calls Try.prog 36 #[.string s, .slice A xs.length c, .slice B F.length d] w (SetR s.size (Rall I xs) F w) := by
  have HI := Lib.hid cI; clear cI
  have hlen := h.len_le
  have HL := Lib.hid hl; clear hl
  go_enter Try.func36, Try.ntmps36
  go_wp2_with fail
  go_loopw [2, 7] (fun cur i wr => ∃ (k : Nat) (G : List Bool) (D : Option Addr) (e : Nat), k ≤ xs.length ∧ i = .int .i64 k ∧ cur = .slice D G.length e ∧ SRW shB wr D e G ∧ Hid (0 < k → SR shB wr w.heap.size wr.heap.size D e G) ∧ Hid (Set_ s.size (Rall I (xs.take k)) F G) ∧ Up w wr) (fun _ i _ => xs.length - (intOf i).toNat)
  case atStart => exact ⟨0, F, B, d, by omega, rfl, rfl, hF, fun h => absurd h (by omega), Set_.refl HL.out, Up.refl _⟩
  case round =>
    obtain ⟨k, G, D, e, hk, rfl, rfl, hG, hN, hS, hu⟩ := hrel
    by_cases hlt : k < xs.length
    · obtain ⟨g, off, A4, c4, rfl, _, _, hc0, hc1, hc2, hc3, hc4, b0, b1, b2, b3, b4, _⟩ := atPattern (h.up (good_Pattern good_Qq) hu) hlt
      go_wp2_with fail
      refine (HI.out _ xs[k] G D e _ (List.getElem_mem hlt) ⟨_, rfl, mkPattern (x := xs[k]) b0 b1 b2 b3 b4⟩ hG hS.out.1).mono ?_
      rintro e1 w1 ⟨D1, d1, G1, rfl, hG1, hS1, u1⟩
      have hN2 : Hid (Set_ s.size (Rall I (xs.take (k + 1))) F G1) := by
        unfold Hid
        rw [List.take_succ_eq_append_getElem hlt]
        exact hS.out.comp hS1 fun i j => Rall_snoc I _ _ i j
      have hfr : SR shB w1 w.heap.size w1.heap.size D1 d1 G1 := SR.wide good_B hG1 hu.size (Nat.le_refl _)
      clear hc0 hc1 hc2 hc3 hc4
      go_wp2_with fail
      go_roundw
      case rel => exact ⟨k + 1, G1, D1, d1, by omega, by go_num, rfl, SR.wide good_B hG1 (Nat.zero_le _) (Nat.le_refl _), fun _ => hfr, hN2, hu.trans u1⟩
      case measure => simp [intOf]; omega
    · have hfin : Hid (Set_ s.size (Rall I xs) F G) := by
        have := hS.out
        rw [List.take_of_length_le (by omega)] at this
        exact this
      have hr := hN.out (by omega)
      go_wp2_with fail
      go_ret
      exact SetR.mk hfin.out.1 hfin.out hr hu

theorem Rall_congr {α : Type} {I J : α → Nat → Nat → Prop} : ∀ (xs : List α), (∀ x ∈ xs, ∀ i j, I x i j ↔ J x i j) → ∀ i j, Rall I xs i j ↔ Rall J xs i j
  | [], _, _, _ => Iff.rfl
  | x :: xs, h, i, j => ⟨fun ⟨m, a, b⟩ => ⟨m, (h x (by simp) _ _).1 a, (Rall_congr xs (fun y hy => h y (by simp [hy])) _ _).1 b⟩, fun ⟨m, a, b⟩ => ⟨m, (h x (by simp) _ _).2 a, (Rall_congr xs (fun y hy => h y (by simp [hy])) _ _).2 b⟩⟩
abbrev EndS (n : Nat) : Prop := ∀ (s : ByteArray), s.size ≤ 64 → ∀ (l : List (Pat n)) (deep : Int) (A : Option Addr) (c : Nat) (F : List Bool) (B : Option Addr) (d : Nat) (w : World), okPats n l deep = true → SRW (shPat n) w A c l → SRW shB w B d F → F.length = s.size + 1 →
    Calls Try.prog 36 #[.string s, .slice A l.length c, .slice B F.length d] w (SetR s.size (Rpats n s l) F w)
theorem vc_endPats : ∀ n, EndS n
  | 0 => fun s hs l deep A c F B d w hok => by cases hok
  | n + 1 => fun s hs l deep A c F B d w hok h hF hl => by
    have hv := listV_t.1 (show listV (okPats n) l deep = true from hok)
    exact vc_ends (good_Pat n) (RI (Rpats n s) s) s l hv.1 A c F B d w h hF hl (fun v x F B d w hx hav hF hl => by
      have hi := hv.2.2 x hx
      have ho := vc_once (good_Pat n) (okPats n) (Rpats n s) s hs x deep hi (fun l Ad c F B d w hl => vc_endPats n s hs l (deep - 1) Ad c F B d w hl)
      have hf : Fwd s.size (Ronce (Rpats n s) s x) := Ronce_fwd fun a _ => Rpats_fwd s n a
      obtain ⟨x0, x1, x2, x3, x4⟩ := x
      exact vc_item2 (good_Pat n) _ s hs hf x0 x1 x2 x3 x4 hi.1 hi.2.1 hi.2.2.1 hi.2.2.2.1 ho v F B d w hav hF hl)

/-! ### The whole -/
open Classical in
noncomputable def matchB (n : Nat) (s : ByteArray) (l : List (Pat n)) : Bool := decide (Rpats n s l 0 s.size)
/-- The set of the first place alone. -/
def oneL (N : Nat) : List Bool := (List.replicate (N + 1) false).set 0 true
theorem oneL_at (N j : Nat) : (oneL N)[j]? = some true ↔ j = 0 := by
  unfold oneL
  rw [set_true (by simp)]
  exact ⟨fun h => h.resolve_left (repl_false _ j), .inr⟩
theorem match_at {n : Nat} {s : ByteArray} {l : List (Pat n)} {G : List Bool} (h : Set_ s.size (Rpats n s l) (oneL s.size) G) : G[s.size]? = some (matchB n s l) := by
  have hl : s.size < G.length := by have := h.1; omega
  rw [List.getElem?_eq_getElem hl]
  congr 1
  have := h.2 s.size
  rw [List.getElem?_eq_getElem hl] at this
  by_cases hm : Rpats n s l 0 s.size
  · have hb : matchB n s l = true := by simp [matchB, hm]
    rw [hb]
    have := this.2 ⟨0, (oneL_at _ _).2 rfl, hm⟩
    simpa using this
  · have hb : matchB n s l = false := by simp [matchB, hm]
    rw [hb]
    cases hg : G[s.size]
    · rfl
    · rw [hg] at this
      obtain ⟨i, hi, hr⟩ := this.1 rfl
      obtain rfl := (oneL_at _ _).1 hi
      exact absurd hr hm
set_option maxRecDepth 100000 in
set_option maxHeartbeats 4000000 in
theorem vc_l04Match (n : Nat) (s : ByteArray) (hs : s.size ≤ 64) (l : List (Pat n)) (deep : Int) (hok : okPats n l deep = true) (A : Option Addr) (c : Nat) (w : World) (h : SRW (shPat n) w A c l) :
    Calls Try.prog 21 #[.string s, .slice A l.length c] w (BoolQ (matchB n s l) w) := by
  have hmk := fun W => run_make_bools (s.size + 1) (by omega) ((s.size : Int) + 1) (by omega) W
  obtain ⟨C0, hC0⟩ : ∃ C0, C0 = madeCells #[.bool false] (s.size + 1) := ⟨_, rfl⟩
  simp only [← hC0] at hmk
  have r1 : RowB (w.alloc (.cells C0 4)) w.heap.size 0 4 C0 (List.replicate (s.size + 1) false) := by rw [hC0]; exact RowB.made _ _ _
  have r2 : RowB (w.alloc (.cells (C0.setIfInBounds 0 (.bool true)) 4)) w.heap.size 0 4 (C0.setIfInBounds 0 (.bool true)) (oneL s.size) := ⟨Bk.new _ _ _, (r1.set0 (i := 0) (by simp) true).2⟩
  have m1 : (w.alloc (.cells C0 4)).cell? ⟨w.heap.size, 0, none⟩ = some (.bool false) := r1.cell0 (by simp)
  have m2 := r1.1.frozen 0
  have u2 : Up w (w.alloc (.cells (C0.setIfInBounds 0 (.bool true)) 4)) := (Up.refl _).alloc _
  have h2 := r2.sr (lo := 0) (c := s.size + 1) (Nat.zero_le _) (by simp [oneL]) (by unfold maxLen; omega)
  have hol : (oneL s.size).length = s.size + 1 := by simp [oneL]
  have ce := vc_endPats n s hs l deep A c (oneL s.size) (some ⟨w.heap.size, 0, none⟩) (s.size + 1) _ hok (h.up (good_Pat n) u2) h2 hol
  rw [hol] at ce
  have CE := Lib.hid ce; clear ce
  clear hC0 hol hok r1
  go_enter Try.func21, Try.ntmps21
  go_wp2_with fail
  refine CE.out.mono ?_
  rintro e w1 ⟨D, d1, G, rfl, hG, hS, u1⟩
  have hGl : s.size < G.length := by have := hS.1; omega
  obtain ⟨g, off, rfl, _, _, hc⟩ := hG.at_B hGl
  have hGe := match_at hS
  rw [List.getElem?_eq_getElem hGl] at hGe
  injection hGe with hGe
  rw [hGe] at hc
  clear hGe hS
  go_wp2_with fail
  go_ret
  exact BoolQ.mk rfl (u2.trans u1)

set_option maxHeartbeats 1000000 in
theorem vs_MatchPattern (n : Nat) (s : ByteArray) (l : List (Pat n)) (A : Option Addr) (c : Nat) (w : World) (hm : s.size ≤ maxLen) (h : SRW (shPat n) w A c l) :
    Calls Try.prog 6 #[.string s, .slice A l.length c] w (BoolQ (decide (s.size ≤ 64) && okPats n l 3 && matchB n s l) w) := by
  unfold maxLen at hm
  have hlen := h.len_le
  have cr : ∀ w, SRW (shPat n) w A c l → Calls Try.prog 20 #[.slice A l.length c] w (BoolQ (okPats n l 3) w) := fun w h => by
    have CO := Lib.hid (vc_okPats n l A c 3 w h (by omega) (by omega))
    go_enter Try.func20, Try.ntmps20
    go_wp2_with fail
    refine CO.out.mono ?_
    rintro e w1 ⟨rfl, u1⟩
    go_wp2_with fail
    go_ret
    exact BoolQ.mk rfl u1
  have CR := Lib.hid cr; clear cr
  by_cases hs : s.size ≤ 64
  · have hsi : (s.size : Int) ≤ 64 := by omega
    cases hok : okPats n l 3
    · have HK := Lib.hid hok; clear hok
      go_enter Try.func6, Try.ntmps6
      go_wp2_with fail
      refine (CR.out _ h).mono ?_
      rintro e w1 ⟨rfl, u1⟩
      rw [HK.out]
      go_wp2_with fail
      go_ret
      exact BoolQ.mk (by simp) u1
    · have CM := Lib.hid (fun w h => vc_l04Match n s hs l 3 hok A c w h)
      have HK := Lib.hid hok; clear hok
      go_enter Try.func6, Try.ntmps6
      go_wp2_with fail
      refine (CR.out _ h).mono ?_
      rintro e w1 ⟨rfl, u1⟩
      rw [HK.out]
      go_wp2_with fail
      refine (CM.out _ (h.up (good_Pat n) u1)).mono ?_
      rintro e w2 ⟨rfl, u2⟩
      go_wp2_with fail
      go_ret
      exact BoolQ.mk (by simp [hs]) (u1.trans u2)
  · have hsi : ¬ (s.size : Int) ≤ 64 := by omega
    have hsd : decide ((s.size : Int) ≤ 64) = false := decide_eq_false hsi
    have HF : Hid (false = (decide (s.size ≤ 64) && okPats n l 3 && matchB n s l)) := by unfold Hid; simp [hs]
    generalize (decide (s.size ≤ 64) && okPats n l 3 && matchB n s l) = V at HF
    go_enter Try.func6, Try.ntmps6
    go_wp2_with fail
    go_ret
    exact BoolQ.mk HF.out (Up.refl _)
end Go.Proofs.Ytgdcdfpnogiciaa
