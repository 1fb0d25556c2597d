/-
  The records below a page: the reference's.
-/
import Derived.Test.YtpjcgglhlmifdaaGreatDoorM3Wdg
import Derived.Deep.RegionHeld3
namespace Go.Proofs.YtpjcgglhlmifdaaGreatDoor
open Go.RowKit
set_option linter.unusedVariables false
set_option linter.unusedSimpArgs false

theorem flat_Record : Flat shRecord := flat_P flat_S flat_S
theorem src_flatR {α : Type} {s : Sh α} (hg : Good s) (hf : Flat s) {P : Program} {W : World} {lo : Nat} {t e : TypeId} (ht : P.underlying t = some (.slice e)) {n : Nat} (hn : n = s.size) {A : Option Addr} {c : Nat} {xs : List α} (h : SRW s W A c xs) :
    ∃ news, Src P n t (.slice A xs.length c) xs.length news W ∧ Rowed s W lo W.heap.size news xs (List.replicate xs.length []) := by
  rcases Nat.eq_zero_or_pos xs.length with h0 | hp
  · obtain rfl := List.eq_nil_of_length_eq_zero h0
    refine ⟨[], ?_, ⟨rfl, by simp, fun i hi => absurd hi (by simp)⟩⟩
    cases A with
    | none => exact Src.ofNil W ht c
    | some a => exact Src.ofSlice W ht a 0 c [] (by simp) (fun j u hu => by simp at hu) (by simp)
  · obtain ⟨g, off, rfl, _, _, h3⟩ := h.2.2 hp
    obtain ⟨news, hr, hc⟩ := Rowed.flat (lo := lo) (hi := W.heap.size) hg hf h3
    exact ⟨news, Src.ofSlice W ht _ _ _ news (by rw [hr.2.1, hn]) hc (hr.ones hg), hr⟩
theorem flat_nilR (n : Nat) : (List.replicate n ([] : List Nat)).flatten = [] := by induction n with
  | zero => rfl
  | succ n ih => simp [List.replicate_succ]
theorem up4 {w w' : World} (u : Up w w') {a b c d : Addr} {x y z v : Value} (h : w.cell? a = some x ∧ w.cell? b = some y ∧ w.cell? c = some z ∧ w.cell? d = some v) : w'.cell? a = some x ∧ w'.cell? b = some y ∧ w'.cell? c = some z ∧ w'.cell? d = some v :=
  ⟨(u.cell (cell_lt h.1)).trans h.1, (u.cell (cell_lt h.2.1)).trans h.2.1, (u.cell (cell_lt h.2.2.1)).trans h.2.2.1, (u.cell (cell_lt h.2.2.2)).trans h.2.2.2⟩
theorem cinfo_Rec : (Tryz.prog.info? 101).map (fun i => (i.zero, i.size, i.bytes)) = some (some (.agg #[.string ⟨#[]⟩, .string ⟨#[]⟩]), 2, 32) := by kernel_rfl
def GatherN (x : TBtree) (A0 : Option Addr) (c0 n : Nat) : Prop :=
  ∀ (id : Int) (w : World) (H : Nat), H ≤ w.heap.size → shBtree.rep w 0 H [.int .i64 x.1, .slice A0 x.2.length c0] x → Stands x n id → (gatherB x n id).length ≤ 384 → I64 id →
    Calls Tryz.prog 49 #[.agg #[.int .i64 x.1, .slice A0 x.2.length c0], .int .i64 id] w (ToL shRecord (gatherB x n id) w)
set_option maxRecDepth 100000 in
set_option maxHeartbeats 16000000 in
theorem gather_in {x : TBtree} (hs : SlotsP x.2) {A0 : Option Addr} {c0 n : Nat} (IH : GatherN x A0 c0 n) : GatherN x A0 c0 (n + 1) := by
  intro id w H hH hrep hst hlen hid
  obtain ⟨i0, hi0, hz0, hz1, hz2⟩ := info_parts cinfo_Rec
  obtain ⟨p, hp, hkids⟩ := hst
  have hpb := pgAt_ok hs hp
  have hg : gatherB x (n + 1) id = recsTo p p.2.2.1.length ++ kidsG (fun k => gatherB x n (p.2.2.2.getD k 0)) p.2.2.2.length := by rw [gatherB, hp]
  rw [hg] at hlen ⊢
  clear hg
  rw [List.length_append, recsTo_len] at hlen
  generalize hGf : (fun k => gatherB x n (p.2.2.2.getD k 0)) = G at hlen ⊢
  have HGf := Lib.hid (fun k => (congrFun hGf k).symm)
  clear hGf
  have HV : Hid (p.2.2.1.length ≤ p.2.1.length) := Lib.hid (by
    cases hl : p.1
    · rw [fork_vals hpb hl]; exact Nat.zero_le _
    · rw [(leaf_kids hpb hl).2.1]; exact Nat.le_refl _)
  have HKR := Lib.hid (fun k (hk : k < p.2.2.2.length) => show I64 p.2.2.2[k] by
    cases hl : p.1
    · exact kid_rng hpb hl k hk
    · have := (leaf_kids hpb hl).1; omega)
  have HKS := Lib.hid (fun k (hk : k < p.2.2.2.length) => show Stands x n p.2.2.2[k] by
    cases hl : p.1
    · have := hkids hl k hk
      rw [getD_inW hk] at this
      exact this
    · have := (leaf_kids hpb hl).1; omega)
  have HVL := Lib.hid (show p.2.2.1.length ≤ 6 by
    cases hl : p.1
    · rw [fork_vals hpb hl]; omega
    · have := leaf_kids hpb hl; omega)
  have HKL := Lib.hid (show p.2.2.2.length ≤ 6 by
    cases hl : p.1
    · exact (kid_of_pageD hpb hl).1
    · have := leaf_kids hpb hl; omega)
  have kb := (Bk.new w 30 #[.int .i64 x.1, .slice A0 x.2.length c0]).alloc (.cells #[] 101)
  have uu : Up w ((w.alloc (.cells #[.int .i64 x.1, .slice A0 x.2.length c0] 30)).alloc (.cells #[] 101)) := ((Up.refl _).alloc _).alloc _
  have HLEN := Lib.hid hlen
  have hsN := Lib.hid hs
  have hpN := Lib.hid hp
  have hr : shBtree.rep ((w.alloc (.cells #[.int .i64 x.1, .slice A0 x.2.length c0] 30)).alloc (.cells #[] 101)) 0 H [.int .i64 x.1, .slice A0 x.2.length c0] x := good_Btree.keep hrep (uu.keeps hH)
  have CP := Lib.hid (c_l16Page [.int .i64 x.1, .slice A0 x.2.length c0] x id p _ H (Nat.le_trans hH uu.size) hr hs hp)
  have gb0 : World.cell? _ ⟨w.heap.size, 0, none⟩ = some (.int .i64 x.1) := kb.cell 0
  have gb1 : World.cell? _ ⟨w.heap.size, 1, none⟩ = some (.slice A0 x.2.length c0) := kb.cell 1
  clear hlen hs hp hkids hpb
  go_enter Tryz.func49, Tryz.ntmps49
  go_wp2_with fail
  refine CP.out.mono ?_
  rintro e w1 ⟨cs, rfl, hr1, u1⟩
  obtain ⟨A1, c1, A2, c2, A3, c3, rfl, b1, b2, b3⟩ := openPage hr1
  have hrN := Lib.hid (good_Btree.keep hr (u1.keeps (Nat.le_trans hH uu.size)))
  have zW := Nat.le_trans uu.size u1.size
  have kb1 := kb.up u1
  have uW := uu.trans u1
  clear CP gb0 gb1 hr1 kb uu hr u1
  go_wp2_with fail
  have kP := Bk.new w1 88 #[.bool p.1, .slice A1 p.2.1.length c1, .slice A2 p.2.2.1.length c2, .slice A3 p.2.2.2.length c3]
  have uP : Up w1 (w1.alloc (.cells #[.bool p.1, .slice A1 p.2.1.length c1, .slice A2 p.2.2.1.length c2, .slice A3 p.2.2.2.length c3] 88)) := (Up.refl _).alloc _
  have zP : (w1.alloc (.cells #[.bool p.1, .slice A1 p.2.1.length c1, .slice A2 p.2.2.1.length c2, .slice A3 p.2.2.2.length c3] 88)).heap.size = w1.heap.size + 1 := by simp
  generalize (w1.alloc (.cells #[.bool p.1, .slice A1 p.2.1.length c1, .slice A2 p.2.2.1.length c2, .slice A3 p.2.2.2.length c3] 88)) = WP at kP uP zP ⊢
  have hH1 : H ≤ w1.heap.size := Nat.le_trans hH zW
  have b1P := SR.keep good_S b1 (uP.keeps hH1)
  have b2P := SR.keep good_S b2 (uP.keeps hH1)
  have b3P := SR.keep good_I b3 (uP.keeps hH1)
  have hrP := Lib.hid (good_Btree.keep hrN.out (uP.keeps hH1))
  have kbP := kb1.up uP
  have uWP := uW.trans uP
  have hl1 := b1P.len_le
  clear b1 b2 b3 hrN kb1 uW uP
  go_loopw [5, 7] (fun s5 s7 wr => ∃ (k : Nat) (D : Option Addr) (d : Nat) (bl : List Nat), k ≤ p.2.2.1.length ∧ s7 = .int .i64 k ∧ s5 = .slice D k d ∧ SO shRecord wr WP.heap.size wr.heap.size D d (recsTo p k) bl ∧ bl.Nodup ∧ Up WP wr) (fun _ s7 _ => p.2.2.1.length - (intOf s7).toNat)
  case atStart => exact ⟨0, _, 0, [], Nat.zero_le _, rfl, rfl, ⟨Nat.le_refl _, Nat.zero_le _, .inl ⟨rfl, rfl, rfl⟩⟩, List.nodup_nil, Up.refl _⟩
  case round =>
    obtain ⟨k, D, d, bl, hk, rfl, rfl, so, nd, hu⟩ := hrel
    have kPr := kP.up hu
    have gp1 : wr.cell? ⟨w1.heap.size, 1, none⟩ = some (.slice A1 p.2.1.length c1) := kPr.cell 1
    have gp2 : wr.cell? ⟨w1.heap.size, 2, none⟩ = some (.slice A2 p.2.2.1.length c2) := kPr.cell 2
    have gp3 : wr.cell? ⟨w1.heap.size, 3, none⟩ = some (.slice A3 p.2.2.2.length c3) := kPr.cell 3
    by_cases hlt : k < p.2.2.1.length
    · have hkk : k < p.2.1.length := Nat.lt_of_lt_of_le hlt HV.out
      obtain ⟨ga, oa, hAa, _, hga, hck, hsk⟩ := b1P.at_S hkk
      obtain ⟨gc, oc, hAc, _, hgc, hcv, hsv⟩ := b2P.at_S hlt
      have HN := Lib.hid (show recsTo p (k + 1) = recsTo p k ++ [(p.2.1[k], p.2.2.1[k])] by rw [recsTo_succ, getD_inW hkk, getD_inW hlt])
      have hrl := recsTo_len p k
      have hk6 := HVL.out
      have hki : (k : Int) < (p.2.1.length : Int) := by omega
      have hkv : (k : Int) < (p.2.2.1.length : Int) := by omega
      have hx1 : ((recsTo p k).length + 1) * i0.bytes ≤ 140737488355328 := by rw [hz2, hrl]; omega
      have hx2 : (recsTo p k).length + 1 ≤ maxLen := by unfold maxLen; omega
      subst hAa hAc
      have hc4 := Lib.hid (⟨kP.cell 1, kP.cell 2, hck, hcv⟩ : WP.cell? ⟨w1.heap.size, 1, none⟩ = some (.slice (some ⟨ga, oa, none⟩) p.2.1.length c1) ∧ WP.cell? ⟨w1.heap.size, 2, none⟩ = some (.slice (some ⟨gc, oc, none⟩) p.2.2.1.length c2) ∧ WP.cell? ⟨ga, oa + k, none⟩ = some (.string p.2.1[k]) ∧ WP.cell? ⟨gc, oc + k, none⟩ = some (.string p.2.2.1[k]))
      have hin := so.in_ good_Record
      have hzz := hu.size
      have HRL := Lib.hid hrl
      have SOH := Lib.hid so
      have hmR : p.2.1[k].size ≤ maxLen ∧ p.2.2.1[k].size ≤ maxLen := ⟨by unfold maxLen; omega, by unfold maxLen; omega⟩
      clear hrl so hck hcv
      go_wp2_with fail
      go_region_held3 (fun W => W.cell? ⟨w1.heap.size, 1, none⟩ = some (.slice (some ⟨ga, oa, none⟩) p.2.1.length c1) ∧ W.cell? ⟨w1.heap.size, 2, none⟩ = some (.slice (some ⟨gc, oc, none⟩) p.2.2.1.length c2) ∧ W.cell? ⟨ga, oa + k, none⟩ = some (.string p.2.1[k]) ∧ W.cell? ⟨gc, oc + k, none⟩ = some (.string p.2.2.1[k]))
        (first | exact up4 hu.drew hc4.out | exact up4 (hu.drew.alloc _) hc4.out | exact up4 uu2 hc4.out)
        (first
          | (refine step_app good_Record rfl _ _ _ _ 101 rfl i0 _ Tryz.underlying26 hi0 hz0 hz1 (by rfl) (lo := WP.heap.size) (xs := recsTo p k) (ys := [(p.2.1[k], p.2.2.1[k])]) (bl := bl) (bs := [[]]) (news := [.string p.2.1[k], .string p.2.2.1[k]]) (by rw [HRL.out]; rfl) rfl (SOH.out.up good_Record (((Up.refl wr).drew).alloc _)) (by simpa using nd) (Src.box (t := 101) (cs := [.string p.2.1[k], .string p.2.2.1[k]]) Tryz.underlying26 (Bk.new wr.drew 101 #[.string p.2.1[k], .string p.2.2.1[k]]) (by simp [Value.oneCell']) (by rw [hz1]; rfl)) (Rowed.one good_Record (mkORecord (x := (p.2.1[k], p.2.2.1[k])) hmR.1 hmR.2)) (hu.drew.alloc (.cells #[.string p.2.1[k], .string p.2.2.1[k]] 101)).size hx1 hx2 ?_
             intro D' d' bl' w9 hap
             obtain ⟨so9, nd9, mem9, on9⟩ := hap
             have uu2 : Up WP w9 := Up.only (hu.drew.alloc (.cells #[.string p.2.1[k], .string p.2.2.1[k]] 101)) on9 (fun y hy => (hin y hy).1)))
      all_goals
        go_wp2_with fail
        go_roundw
        case rel =>
          refine ⟨k + 1, D', d', bl', by omega, by go_num, by first | (rw [HRL.out]; rfl) | rw [HRL.out], ?_, nd9, uu2⟩
          rw [HN.out]
          exact so9
        case measure => simp [intOf]; omega
    · obtain rfl : k = p.2.2.1.length := by omega
      have hR0 := recsTo_len p p.2.2.1.length
      clear hlt
      obtain ⟨R0, hR0e⟩ : ∃ R0, R0 = recsTo p p.2.2.1.length := ⟨_, rfl⟩
      rw [← hR0e] at so hR0 ⊢
      have HR0 := Lib.hid hR0
      have HR0E := Lib.hid hR0e
      have HKLN := HKL.out
      have hv6 := HVL.out
      have hbb : ∀ k, k ≤ p.2.2.2.length → (kidsG G k).length ≤ 384 := fun k hk => by have h1 := kidsG_mono G hk; have h2 := HLEN.out; omega
      have HBB := Lib.hid hbb
      clear hR0 hR0e hbb
      go_wp2_with fail
      go_loopw [5, 8] (fun s5 s8 wk => ∃ (k : Nat) (D : Option Addr) (d : Nat) (bl : List Nat), k ≤ p.2.2.2.length ∧ s8 = .int .i64 k ∧ s5 = .slice D (R0 ++ kidsG G k).length d ∧ SO shRecord wk WP.heap.size wk.heap.size D d (R0 ++ kidsG G k) bl ∧ bl.Nodup ∧ Up WP wk) (fun _ s8 _ => p.2.2.2.length - (intOf s8).toNat)
      case atStart => exact ⟨0, D, d, bl, Nat.zero_le _, rfl, by rw [List.length_append, HR0.out]; rfl, by simpa [kidsG] using so, nd, hu⟩
      case round =>
        clear gp1 gp2 gp3 kPr so nd hu
        rename_i wr0
        obtain ⟨k, D, d, bl, hk, rfl, rfl, so, nd, hu⟩ := hrel
        have kPr := kP.up hu
        have gp3 : wr.cell? ⟨w1.heap.size, 3, none⟩ = some (.slice A3 p.2.2.2.length c3) := kPr.cell 3
        by_cases hlt : k < p.2.2.2.length
        · obtain ⟨ga, oa, hAa, _, hga, hck, hik⟩ := b3P.at_I hlt
          subst hAa
          have HN := Lib.hid (show R0 ++ kidsG G (k + 1) = (R0 ++ kidsG G k) ++ gatherB x n p.2.2.2[k] by rw [kidsG_succ, HGf.out k, getD_inW hlt, List.append_assoc])
          have hki : (k : Int) < (p.2.2.2.length : Int) := by omega
          have hgl : (gatherB x n p.2.2.2[k]).length ≤ 384 := by
            have h1 := kidsG_at G hlt
            rw [HGf.out k, getD_inW hlt] at h1
            have h2 := HBB.out _ (Nat.le_refl _)
            omega
          have hol : (R0 ++ kidsG G k).length ≤ 390 := by
            rw [List.length_append, HR0.out]
            have := HBB.out k hk
            omega
          have hH2 : H ≤ wr.drew.heap.size := by have := hu.size; show H ≤ wr.heap.size; omega
          have CALL := Lib.hid (IH p.2.2.2[k] wr.drew H hH2 (good_Btree.keep hrP.out (hu.drew.keeps (by omega))) (HKS.out k hlt) hgl (HKR.out k hlt))
          generalize gatherB x n p.2.2.2[k] = Y at HN hgl CALL
          generalize R0 ++ kidsG G k = X at HN hol so ⊢
          have hx1 : (X.length + Y.length) * i0.bytes ≤ 140737488355328 := by rw [hz2]; omega
          have hx2 : X.length + Y.length ≤ maxLen := by unfold maxLen; omega
          have hc4 := Lib.hid (⟨kbP.cell 0, kbP.cell 1, kP.cell 3, hck⟩ : WP.cell? ⟨w.heap.size, 0, none⟩ = some (.int .i64 x.1) ∧ WP.cell? ⟨w.heap.size, 1, none⟩ = some (.slice A0 x.2.length c0) ∧ WP.cell? ⟨w1.heap.size, 3, none⟩ = some (.slice (some ⟨ga, oa, none⟩) p.2.2.2.length c3) ∧ WP.cell? ⟨ga, oa + k, none⟩ = some (.int .i64 p.2.2.2[k]))
          have hin := so.in_ good_Record
          have hzz := hu.size
          have SOH := Lib.hid so
          clear so hck
          go_wp2_with fail
          go_region_held3 (fun W => W.cell? ⟨w.heap.size, 0, none⟩ = some (.int .i64 x.1) ∧ W.cell? ⟨w.heap.size, 1, none⟩ = some (.slice A0 x.2.length c0) ∧ W.cell? ⟨w1.heap.size, 3, none⟩ = some (.slice (some ⟨ga, oa, none⟩) p.2.2.2.length c3) ∧ W.cell? ⟨ga, oa + k, none⟩ = some (.int .i64 p.2.2.2[k]))
            (first | exact up4 hu.drew hc4.out | exact up4 uu1 hc4.out | exact up4 uu2 hc4.out)
            (first
              | (go_at_call 49
                 (with_reducible refine CALL.out.mono ?_)
                 rintro e w5 ⟨E1, e1, bln, rfl, on, ndn, un⟩
                 have uu1 : Up WP w5 := hu.drew.trans un
                 obtain ⟨news, hsrc, hrow⟩ := src_flatR (lo := WP.heap.size) good_Record flat_Record (P := Tryz.prog) (W := w5) (n := i0.size) Tryz.underlying26 hz1 (SR.of_own good_Record on)
                 have s5' := SOH.out.up good_Record ((Up.refl wr).drew.trans un))
              | (refine step_app good_Record rfl _ _ _ _ 101 rfl i0 _ Tryz.underlying26 hi0 hz0 hz1 (by rfl) (lo := WP.heap.size) (xs := X) (ys := Y) (bl := bl) (bs := List.replicate Y.length []) (news := news) rfl rfl s5' (by rw [flat_nilR, List.append_nil]; exact nd) hsrc hrow uu1.size hx1 hx2 ?_
                 intro D' d' bl' w9 hap
                 obtain ⟨so9, nd9, mem9, on9⟩ := hap
                 have uu2 : Up WP w9 := Up.only uu1 on9 (fun y hy => (hin y hy).1)))
          all_goals
            go_wp2_with fail
            go_roundw
            case rel =>
              refine ⟨k + 1, D', d', bl', by omega, by go_num, by rw [HN.out, List.length_append], ?_, nd9, uu2⟩
              rw [HN.out]
              exact so9
            case measure => simp [intOf]; omega
        · obtain rfl : k = p.2.2.2.length := by omega
          clear hlt
          go_wp2_with fail
          refine bodyPost_ret (v := .slice D (R0 ++ kidsG G p.2.2.2.length).length d) (by simp [results, Tryz.results49, go_sem]) rfl ?_
          rw [← HR0E.out]
          exact ⟨D, d, bl, rfl, so.wide good_Record (lo' := w.heap.size) (by omega) (Nat.le_refl _), nd, uWP.trans hu⟩
theorem c_gather {x : TBtree} (hs : SlotsP x.2) {A0 : Option Addr} {c0 : Nat} : ∀ n, GatherN x A0 c0 n
  | 0 => fun id w H _ _ hst _ _ => hst.elim
  | n + 1 => gather_in hs (c_gather hs n)
end Go.Proofs.YtpjcgglhlmifdaaGreatDoor
