/-
  Salvage: the reference's.
-/
import Derived.Test.YtehhgogmbpdpbaaGreatDoorM1Su
import Derived.Test.YtehhgogmbpdpbaaGreatDoorM1Qt
import Derived.Test.YtehhgogmbpdpbaaGreatDoorM1Rl
import Derived.Deep.RegionHeld3
namespace Go.Proofs.YtehhgogmbpdpbaaGreatDoor
open Go.RowKit
set_option linter.unusedVariables false
set_option linter.unusedSimpArgs false

theorem salv_small {r : Int} {x : List TSlot} (h : x.length ≤ 64) : salvB (r, x) = putRecs [] (rawTo x x.length) ∧ salvC (r, x) = 0 := by
  unfold salvB salvC
  exact ⟨if_pos h, if_pos h⟩
theorem salv_big {r : Int} {x : List TSlot} (h : ¬ x.length ≤ 64) : salvB (r, x) = [] ∧ salvC (r, x) = 1 := by
  unfold salvB salvC
  exact ⟨if_neg h, if_neg h⟩
theorem up4t {w w' : World} (u : Up w w') {a b c d : Addr} {x y z v : Value} (h : w.cell? a = some x ∧ w.cell? b = some y ∧ w.cell? c = some z ∧ w.cell? d = some v) : w'.cell? a = some x ∧ w'.cell? b = some y ∧ w'.cell? c = some z ∧ w'.cell? d = some v :=
  ⟨(u.cell (cell_lt h.1)).trans h.1, (u.cell (cell_lt h.2.1)).trans h.2.1, (u.cell (cell_lt h.2.2.1)).trans h.2.2.1, (u.cell (cell_lt h.2.2.2)).trans h.2.2.2⟩
/-- What a page adds: the records up to the k-th, put to their places. -/
theorem salv_page {x : List TSlot} {i : Nat} (hi : i < x.length) (h64 : x.length ≤ 64) : ∃ F : Nat → List TRecord, F 0 = putRecs [] (rawTo x i) ∧ (x[i].2.1 = true ∧ pageB x[i].2 = true → (∀ k, F (k + 1) = putRec (F k) (recAt x[i].2 k)) ∧ F x[i].2.2.1.length = putRecs [] (rawTo x (i + 1))) ∧ (¬ (x[i].2.1 = true ∧ pageB x[i].2 = true) → ∀ k, F k = putRecs [] (rawTo x (i + 1))) ∧ ∀ k, k ≤ x[i].2.2.1.length → (F k).length ≤ 384 := by
  refine ⟨fun k => putRecs [] (rawAt x i k), ?_, fun h => ⟨fun k => ?_, ?_⟩, fun h k => ?_, fun k hk => ?_⟩
  · dsimp only; rw [rawAt_zero]
  · dsimp only; rw [rawAt_succ hi h, putRecs_snoc]
  · dsimp only; rw [rawAt_all hi]
  · dsimp only; rw [rawAt_no hi h]
  · dsimp only
    have h1 := putRecs_len (rawAt x i k) []
    have h2 := rawAt_len hi hk
    simp only [List.length_nil] at h1
    omega
set_option maxRecDepth 100000 in
set_option maxHeartbeats 16000000 in
theorem cs_Salvage (v : Value) (y : TBtree) (w : World) (h : AV shBtree w v y) (hn : shBtree.sz y ≤ 1048576) : Calls Tryz.prog 20 #[v] w (RpLR shRecord (salvB y) (salvC y) w) := by
  obtain ⟨cs, rfl, h⟩ := h
  obtain ⟨r, x⟩ := y
  have ho := openBtree h
  dsimp only at ho
  obtain ⟨A0, c0, rfl, br, b00⟩ := ho
  clear h
  have hlen := b00.len_le
  have hnx : (shL shSlot).sz x ≤ 1048576 := by
    have e : shBtree.sz (r, x) = 0 + (shL shSlot).sz x := rfl
    omega
  have HSZ := Lib.hid (fun (i : Nat) (hi : i < x.length) => sz_le shSlot x hi hnx)
  clear hn hnx
  have kT0 := Bk.new w 53 #[.int .i64 r, .slice A0 x.length c0]
  have uu0 : Up w (w.alloc (.cells #[.int .i64 r, .slice A0 x.length c0] 53)) := (Up.refl w).alloc _
  have gT : (w.alloc (.cells #[.int .i64 r, .slice A0 x.length c0] 53)).cell? ⟨w.heap.size, 1, none⟩ = some (.slice A0 x.length c0) := kT0.cell 1
  by_cases h64 : x.length ≤ 64
  · obtain ⟨hV, hC⟩ := salv_small (r := r) h64
    have HV := Lib.hid hV
    have HC := Lib.hid hC
    have HPG := Lib.hid (fun (i : Nat) (hi : i < x.length) => salv_page hi h64)
    clear hV hC
    go_enter Tryz.func20, Tryz.ntmps20
    go_wp2_with fail
    have kT1 := kT0.alloc (.cells #[] 91)
    have uu1 : Up w ((w.alloc (.cells #[.int .i64 r, .slice A0 x.length c0] 53)).alloc (.cells #[] 91)) := uu0.alloc _
    generalize ((w.alloc (.cells #[.int .i64 r, .slice A0 x.length c0] 53)).alloc (.cells #[] 91)) = W1 at kT1 uu1 ⊢
    clear gT kT0 uu0
    go_loopw [4, 5] (fun o iv wr => ∃ (i : Nat) (L : List TRecord) (D : Addr) (c : Nat) (bl : List Nat), i ≤ x.length ∧ iv = .int .i64 i ∧ o = .slice (some D) L.length c ∧ Hid (L = putRecs [] (rawTo x i)) ∧ SO shRecord wr w.heap.size wr.heap.size (some D) c L bl ∧ bl.Nodup ∧ Up W1 wr) (fun _ iv _ => x.length - (intOf iv).toNat)
    case atStart => exact ⟨0, [], _, 0, [], Nat.zero_le _, rfl, rfl, Lib.hid (by simp [rawTo, putRecs]), ⟨Nat.le_refl _, Nat.zero_le _, .inl ⟨rfl, rfl, rfl⟩⟩, List.nodup_nil, Up.refl _⟩
    case round =>
      obtain ⟨i, L, D, c, bl, hi, rfl, rfl, HL, so, nd, hu⟩ := hrel
      have kT := kT1.up hu
      have gT : wr.cell? ⟨w.heap.size, 1, none⟩ = some (.slice A0 x.length c0) := kT.cell 1
      by_cases hlt : i < x.length
      · obtain ⟨F, hF0, hFok, hFno, hFl⟩ := HPG.out i hlt
        obtain ⟨g, off, A2, c2, A3, c3, A4, c4, rfl, _, hgl, hc0, hc1, hc2, hc3, hc4, b0, b2, b3, b4, _⟩ := atSlot (b00.up good_Slot (uu1.trans hu)) hlt
        have hsz := HSZ.out i hlt
        obtain ⟨⟨sid, p⟩, hq⟩ : ∃ q, q = x[i] := ⟨_, rfl⟩
        rw [← hq] at hFok hFno hFl hc0 hc1 hc2 hc3 hc4 b0 b2 b3 b4 hsz
        clear hq
        dsimp only at hFok hFno hFl hc0 hc1 hc2 hc3 hc4 b0 b2 b3 b4 hsz
        have hsz2 := page_sz (slot_sz (x := (sid, p)) hsz)
        clear hsz b0 hc0
        have HL0 := Lib.hid (show L = F 0 from HL.out.trans hF0.symm)
        clear HL hF0
        go_wp2_with fail
        have kP0 := Bk.new wr 85 #[.bool p.1, .slice A2 p.2.1.length c2, .slice A3 p.2.2.1.length c3, .slice A4 p.2.2.2.length c4]
        have uP : Up wr (wr.alloc (.cells #[.bool p.1, .slice A2 p.2.1.length c2, .slice A3 p.2.2.1.length c3, .slice A4 p.2.2.2.length c4] 85)) := (Up.refl wr).alloc _
        have soP := so.up good_Record uP
        have b2P := b2.up good_S uP
        have b3P := b3.up good_S uP
        have b4P := b4.up good_I uP
        generalize (wr.alloc (.cells #[.bool p.1, .slice A2 p.2.1.length c2, .slice A3 p.2.2.1.length c3, .slice A4 p.2.2.2.length c4] 85)) = WP at kP0 uP soP b2P b3P b4P ⊢
        have huP := hu.trans uP
        have zPg : wr.heap.size + 1 ≤ WP.heap.size := kP0.lt
        clear gT kT b2 b3 b4 so hc1 hc2 hc3 hc4
        obtain ⟨n, hn⟩ : ∃ n, n = wr.heap.size := ⟨_, rfl⟩
        rw [← hn] at kP0 zPg ⊢
        clear hn uP
        go_loopw [4, 7] (fun o kv wk => ∃ (k : Nat) (D : Addr) (c : Nat) (bl : List Nat), k ≤ p.2.1.length ∧ kv = .int .i64 k ∧ o = .slice (some D) (F k).length c ∧ SO shRecord wk w.heap.size wk.heap.size (some D) c (F k) bl ∧ bl.Nodup ∧ Up WP wk) (fun _ kv _ => p.2.1.length - (intOf kv).toNat)
        case atStart => exact ⟨0, D, c, bl, Nat.zero_le _, rfl, by rw [HL0.out], by rw [← HL0.out]; exact soP, nd, Up.refl _⟩
        case round =>
          clear nd soP HL0
          rename_i wr0
          obtain ⟨k, D2, cc, bl2, hk, rfl, rfl, so, nd, hk2⟩ := hrel
          have kP := kP0.up hk2
          have b2k := b2P.up good_S hk2
          have b3k := b3P.up good_S hk2
          have b4k := b4P.up good_I hk2
          have gP0 : wr.cell? ⟨n, 0, none⟩ = some (.bool p.1) := kP.cell 0
          cases hl : p.1
          · have HN := Lib.hid (hFno (by rw [hl]; simp) k)
            rw [hl] at gP0
            clear hFok hFno hl
            go_wp2_with fail
            go_roundw
            case rel => exact ⟨i + 1, F k, D2, cc, bl2, by omega, by go_num, rfl, Lib.hid HN.out, so, nd, huP.trans hk2⟩
            case measure => simp [intOf]; omega
          · have gP1 : wr.cell? ⟨n, 1, none⟩ = some (.slice A2 p.2.1.length c2) := kP.cell 1
            have gP2 : wr.cell? ⟨n, 2, none⟩ = some (.slice A3 p.2.2.1.length c3) := kP.cell 2
            have gP3 : wr.cell? ⟨n, 3, none⟩ = some (.slice A4 p.2.2.2.length c4) := kP.cell 3
            have cp := c_specPageOk (.agg #[.bool p.1, .slice A2 p.2.1.length c2, .slice A3 p.2.2.1.length c3, .slice A4 p.2.2.2.length c4]) p wr ⟨_, rfl, mkPage b2k b3k b4k⟩ hsz2
            rw [hl] at gP0 cp
            cases hpg : pageB p
            · have HN := Lib.hid (hFno (by rw [hpg]; simp) k)
              rw [hpg] at cp
              have CP := Lib.hid cp
              clear hFok hFno hl cp hpg
              go_wp2_with (go_at_call 47; (with_reducible refine CP.out.mono ?_); rintro e w2 ⟨rfl, u2⟩)
              go_roundw
              case rel => exact ⟨i + 1, F k, D2, cc, bl2, by omega, by go_num, rfl, Lib.hid HN.out, so.up good_Record u2, nd, (huP.trans hk2).trans u2⟩
              case measure => simp [intOf]; omega
            · obtain ⟨hS, hA⟩ := hFok ⟨hl, hpg⟩
              have hlk := leaf_kids hpg hl
              have hl6 := hlk.2.2
              rw [hpg] at cp
              have CP := Lib.hid cp
              have HA := Lib.hid hA
              have HS := Lib.hid (hS k)
              have HFL := Lib.hid (hFl k hk)
              clear hFok hFno hl cp hpg hS hA
              by_cases hkl : k < p.2.1.length
              · have hi1 : (k : Int) < (p.2.1.length : Int) := by omega
                have hkv : k < p.2.2.1.length := by omega
                obtain ⟨ga, oa, hAa, _, hga, hck, hsk⟩ := b2k.at_S hkl
                obtain ⟨gc, oc, hAc, _, hgc, hcv, hsv⟩ := b3k.at_S hkv
                have hkvi : (k : Int) < (p.2.2.1.length : Int) := by omega
                subst hAa hAc
                have hre : recAt p k = (p.2.1[k], p.2.2.1[k]) := by
                  unfold recAt
                  rw [List.getD_eq_getElem?_getD, List.getElem?_eq_getElem hkl, List.getD_eq_getElem?_getD, List.getElem?_eq_getElem hkv]
                  rfl
                rw [hre] at HS
                clear hre
                have SOH := Lib.hid so
                have NDH := Lib.hid nd
                have hwle : w.heap.size ≤ wr.heap.size := ((uu1.trans huP).trans hk2).size
                have hlkN := Lib.hid hlk
                clear hlk so nd
                go_wp2_with (go_at_call 47; (with_reducible refine CP.out.mono ?_); rintro e w2 ⟨rfl, u2⟩; have kP2 := kP.up u2; have gQ1 : w2.cell? ⟨n, 1, none⟩ = some (.slice (some ⟨ga, oa, none⟩) p.2.1.length c2) := kP2.cell 1; have gQ2 : w2.cell? ⟨n, 2, none⟩ = some (.slice (some ⟨gc, oc, none⟩) p.2.2.1.length c3) := kP2.cell 2)
                have hc4 := Lib.hid (⟨gQ1, gQ2, (u2.cell (cell_lt hck)).trans hck, (u2.cell (cell_lt hcv)).trans hcv⟩ : w2.cell? ⟨n, 1, none⟩ = some (.slice (some ⟨ga, oa, none⟩) p.2.1.length c2) ∧ w2.cell? ⟨n, 2, none⟩ = some (.slice (some ⟨gc, oc, none⟩) p.2.2.1.length c3) ∧ w2.cell? ⟨ga, oa + k, none⟩ = some (.string p.2.1[k]) ∧ w2.cell? ⟨gc, oc + k, none⟩ = some (.string p.2.2.1[k]))
                have so2 := SOH.out.up good_Record u2
                have CALL := Lib.hid (c_l21Put (F k) (p.2.1[k], p.2.2.1[k]) D2 cc w.heap.size bl2 w2.drew so2 NDH.out (Nat.le_trans hwle u2.size) (by have := HFL.out; omega) (by dsimp only; unfold maxLen; omega) (by dsimp only; unfold maxLen; omega))
                rw [← HS.out] at CALL
                clear gP0 gP1 gP2 gP3 gQ1 gQ2 hck hcv so2 kP kP2 CP
                go_region_held3 (fun W => W.cell? ⟨n, 1, none⟩ = some (.slice (some ⟨ga, oa, none⟩) p.2.1.length c2) ∧ W.cell? ⟨n, 2, none⟩ = some (.slice (some ⟨gc, oc, none⟩) p.2.2.1.length c3) ∧ W.cell? ⟨ga, oa + k, none⟩ = some (.string p.2.1[k]) ∧ W.cell? ⟨gc, oc + k, none⟩ = some (.string p.2.2.1[k]))
                  (first | exact up4t (Up.refl w2).drew hc4.out | exact up4t uu3 hc4.out)
                  (first
                    | (go_at_call 48
                       (with_reducible refine CALL.out.mono ?_)
                       rintro e w3 ⟨b3, D3, d3, bl3, rfl, rfl, so3, nd3, hlo3, u3⟩
                       have uu3 : Up w2 w3 := (Up.refl w2).drew.trans u3))
                all_goals
                  go_wp2_with fail
                  go_roundw
                  case rel => exact ⟨k + 1, b3, d3, bl3, by omega, by go_num, rfl, so3, nd3, (hk2.trans u2).trans uu3⟩
                  case measure => simp [intOf]; omega
              · obtain rfl : k = p.2.1.length := by omega
                have hi1 : ¬ ((p.2.1.length : Int) < (p.2.1.length : Int)) := by omega
                clear hlk
                go_wp2_with (go_at_call 47; (with_reducible refine CP.out.mono ?_); rintro e w2 ⟨rfl, u2⟩; have kP2 := kP.up u2; have gQ1 : w2.cell? ⟨n, 1, none⟩ = some (.slice A2 p.2.1.length c2) := kP2.cell 1)
                go_roundw
                case rel => exact ⟨i + 1, F p.2.1.length, D2, cc, bl2, by omega, by go_num, rfl, Lib.hid HA.out, so.up good_Record u2, nd, (huP.trans hk2).trans u2⟩
                case measure => simp [intOf]; omega
      · obtain rfl : i = x.length := by omega
        clear hlt
        go_wp2_with fail
        go_ret2
        exact RpLR.mk (HV.out.trans HL.out.symm) HC.out (SR.of_own good_Record so) (uu1.trans hu)
  · obtain ⟨hV, hC⟩ := salv_big (r := r) h64
    have HV := Lib.hid hV
    have HC := Lib.hid hC
    clear hV hC
    go_enter Tryz.func20, Tryz.ntmps20
    go_wp2_with fail
    go_ret2
    exact RpLR.mk (ys := []) HV.out HC.out (SR.nil _ _ _) uu0
end Go.Proofs.YtehhgogmbpdpbaaGreatDoor
