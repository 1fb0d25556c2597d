/-
  The records below a page: the program's, one page.
-/
import Derived.Test.YtpjcgglhlmifdaaGreatDoorM1Rv
namespace Go.Proofs.YtpjcgglhlmifdaaGreatDoor
open Go.RowKit
set_option linter.unusedVariables false
set_option linter.unusedSimpArgs false

theorem zero_pagepRw (w : World) : (zeroValue 158).run Tryz.prog w = .ok (.pointer none) w := by kernel_rfl
def RecN (x : TBtree) (lo' hi tb b lo n : Nat) : Prop :=
  ∀ (id : Int) (g : Nat) (p : TPage) (L : List TRecord) (w : World), pgAt x id = some p → Stands x n id → L.length + (gatherB x n id).length ≤ 390 → PagesR w lo' hi tb x → hi ≤ b → ListR w b lo L → (∃ cs, Bk w g 88 cs.toArray ∧ g < hi ∧ shPage.rep w 0 hi cs p) →
    Calls Tryz.prog 96 #[.pointer (some ⟨tb, 0, none⟩), .pointer (some ⟨g, 0, none⟩), .func (.func 97) #[] #[.pointer (some ⟨b, 0, none⟩)]] w (VisP b lo (L ++ gatherB x n id) w)
def recsL (p : TPage) (k : Nat) : List TRecord := if p.1 = true then recsTo p k else []
set_option maxRecDepth 100000 in
set_option maxHeartbeats 16000000 in
theorem records_in {x : TBtree} (hs : SlotsP x.2) {lo' hi tb b lo n : Nat} (IH : RecN x lo' hi tb b lo n) : RecN x lo' hi tb b lo (n + 1) := by
  intro id g p L w hp hst hlen PR hhb LR hpg
  obtain ⟨q, hq, hkids⟩ := hst
  obtain rfl : q = p := by rw [hp] at hq; injection hq with e; exact e.symm
  clear hq
  have hpb := pgAt_ok hs hp
  have hg : gatherB x (n + 1) id = recsTo q q.2.2.1.length ++ kidsG (fun k => gatherB x n (q.2.2.2.getD k 0)) q.2.2.2.length := by rw [gatherB, hp]
  rw [hg] at hlen ⊢
  clear hg
  rw [List.length_append, recsTo_len] at hlen
  generalize hGf : (fun k => gatherB x n (q.2.2.2.getD k 0)) = G at hlen ⊢
  have HGf := Lib.hid (fun k => (congrFun hGf k).symm)
  clear hGf
  have HEND := Lib.hid (show recsL q q.2.1.length = recsTo q q.2.2.1.length by
    unfold recsL
    cases hl : q.1
    · rw [fork_vals hpb hl]; rfl
    · rw [(leaf_kids hpb hl).2.1]; rfl)
  have HKR := Lib.hid (fun k (hk : k < q.2.2.2.length) => show I64 q.2.2.2[k] by
    cases hl : q.1
    · exact kid_rng hpb hl k hk
    · have := (leaf_kids hpb hl).1; omega)
  have HKS := Lib.hid (fun k (hk : k < q.2.2.2.length) => show Stands x n q.2.2.2[k] by
    cases hl : q.1
    · have := hkids hl k hk
      rw [getD_inW hk] at this
      exact this
    · have := (leaf_kids hpb hl).1; omega)
  have h6 := keys_le6 hpb
  have HVK := Lib.hid (fun (hl : q.1 = true) => (leaf_kids hpb hl).2.1)
  have HKL := Lib.hid (show q.2.2.2.length ≤ 6 by
    cases hl : q.1
    · exact (kid_of_pageD hpb hl).1
    · have := leaf_kids hpb hl; omega)
  obtain ⟨cs, kg, hgh, hrep⟩ := hpg
  obtain ⟨A1, c1, A2, c2, A3, c3, rfl, b1, b2, b3⟩ := openPage hrep
  have hblo : b < lo := by obtain ⟨_, _, _, _, _, _, h, _⟩ := LR; exact h
  have hLv : q.2.2.1.length + L.length ≤ 390 := by omega
  have hLk := Lib.hid (fun k (hk : k ≤ q.2.2.2.length) => show (L ++ recsTo q q.2.2.1.length ++ kidsG G k).length ≤ 390 by
    have := kidsG_mono G hk
    rw [List.length_append, List.length_append, recsTo_len]
    omega)
  have hLg := Lib.hid (fun k (hk : k < q.2.2.2.length) => show (L ++ recsTo q q.2.2.1.length ++ kidsG G k).length + (G k).length ≤ 390 by
    have := kidsG_mono G (show k + 1 ≤ q.2.2.2.length by omega)
    rw [kidsG_succ, List.length_append] at this
    rw [List.length_append, List.length_append, recsTo_len]
    omega)
  have PRN := Lib.hid PR
  have LRN := Lib.hid LR
  have hsN := Lib.hid hs
  have EG := eg_visit
  have gp1 : w.cell? ⟨g, 1, none⟩ = some (.slice A1 q.2.1.length c1) := kg.cell 1
  clear hlen hp hkids hpb PR LR hs hrep
  go_enter Tryz.func96, Tryz.ntmps96
  go_wp2_with fail
  clear gp1
  go_loopw [15] (fun i wr => ∃ k : Nat, k ≤ q.2.1.length ∧ i = .int .i64 k ∧ Hid (ListR wr b lo (L ++ recsL q k)) ∧ Hid (LW b lo w wr)) (fun i _ => q.2.1.length - (intOf i).toNat)
  case atStart => exact ⟨0, Nat.zero_le _, rfl, by simpa [recsL, recsTo] using LRN, Lib.hid (LW.refl _ _ _)⟩
  case round =>
    obtain ⟨k, hk, rfl, HL, HW⟩ := hrel
    have kgr := HW.out.bk kg (by omega) (by omega)
    have keep : Keeps 0 hi w wr := fun y _ h2 => HW.out.block y (by omega) (by omega)
    have gp0 : wr.cell? ⟨g, 0, none⟩ = some (.bool q.1) := kgr.cell 0
    have gp2 : wr.cell? ⟨g, 2, none⟩ = some (.slice A2 q.2.2.1.length c2) := kgr.cell 2
    have gp3 : wr.cell? ⟨g, 3, none⟩ = some (.slice A3 q.2.2.2.length c3) := kgr.cell 3
    by_cases hlt : k < q.2.1.length
    · obtain ⟨ga, oa, hAa, _, _, hck, hsk⟩ := (SR.keep good_S b1 keep).at_S hlt
      subst hAa
      cases hl : q.1
      · rw [hl] at gp0
        have HN : Hid (ListR wr b lo (L ++ recsL q (k + 1))) := Lib.hid (by
          have h := HL.out
          unfold recsL at h ⊢
          rw [if_neg (by rw [hl]; decide)] at h ⊢
          exact h)
        clear hl keep
        go_wp2_with fail
        go_roundw
        case rel => exact ⟨k + 1, by omega, by go_num, HN, HW⟩
        case measure => simp [intOf]; omega
      · rw [hl] at gp0
        have hvk : k < q.2.2.1.length := by rw [HVK.out hl]; exact hlt
        obtain ⟨gc, oc, hAc, _, _, hcv, hsv⟩ := (SR.keep good_S b2 keep).at_S hvk
        subst hAc
        have hki : (k : Int) < (q.2.2.1.length : Int) := by omega
        have hrl : (L ++ recsL q k).length ≤ 1000 := by
          unfold recsL
          rw [if_pos hl, List.length_append, recsTo_len]
          omega
        have CV := Lib.hid (c_visit b lo (L ++ recsL q k) q.2.1[k] q.2.2.1[k] wr (by unfold maxLen; omega) (by unfold maxLen; omega) HL.out hrl)
        have HX := Lib.hid (show L ++ recsL q (k + 1) = L ++ recsL q k ++ [(q.2.1[k], q.2.2.1[k])] by
          unfold recsL
          rw [if_pos hl, if_pos hl, recsTo_succ, getD_inW hlt, getD_inW hvk, List.append_assoc])
        clear hl keep hrl
        go_wp2_with fail
        refine CV.out.mono ?_
        rintro e w5 ⟨rfl, l5, v5⟩
        rw [← HX.out] at l5
        have HN5 := Lib.hid l5
        have HW5 := Lib.hid (HW.out.trans v5)
        clear l5 v5
        go_wp2_with fail
        go_roundw
        case rel => exact ⟨k + 1, by omega, by go_num, HN5, HW5⟩
        case measure => simp [intOf]; omega
    · obtain rfl : k = q.2.1.length := by omega
      rw [HEND.out] at HL
      clear hlt keep gp0 gp2
      go_wp2_with fail
      clear gp3
      go_loopw [41] (fun i wk => ∃ k : Nat, k ≤ q.2.2.2.length ∧ i = .int .i64 k ∧ Hid (ListR wk b lo (L ++ recsTo q q.2.2.1.length ++ kidsG G k)) ∧ Hid (LW b lo w wk)) (fun i _ => q.2.2.2.length - (intOf i).toNat)
      case atStart => exact ⟨0, Nat.zero_le _, rfl, by simpa [kidsG] using HL, HW⟩
      case round =>
        clear HL HW kgr
        rename_i wr0
        obtain ⟨k, hk, rfl, HL, HW⟩ := hrel
        have keep : Keeps 0 hi w wr := fun y _ h2 => HW.out.block y (by omega) (by omega)
        by_cases hlt : k < q.2.2.2.length
        · obtain ⟨ga, oa, hAa, _, _, hck, hik⟩ := (SR.keep good_I b3 keep).at_I hlt
          subst hAa
          have hkl6 := HKL.out
          have hst := HKS.out k hlt
          obtain ⟨p2, hp2⟩ : ∃ p2, pgAt x q.2.2.2[k] = some p2 := by
            cases n with
            | zero => exact hst.elim
            | succ m => obtain ⟨p2, hp2, _⟩ := hst; exact ⟨p2, hp2⟩
          have PRr := PRN.out.same (w' := wr) (fun y h2 => HW.out.block y (by omega) (by omega))
          have PRrN := Lib.hid PRr
          obtain ⟨pb, n0, f, q1, q2, q3, q4, q5, q6, q7, q8⟩ := PRr
          obtain ⟨g2, cs2, hf2, _, hg2h, kg2, hr2⟩ := (q8 q.2.2.2[k]).2 p2 hp2
          have hlk := q2.look (t := 154) (e := 158) Tryz.underlying2 Tryz.underlying154 (zero_pagepRw _) (i := q.2.2.2[k]) (HKR.out k hlt)
          rw [hf2] at hlk
          simp only [ptrOf] at hlk
          have gt1 : wr.cell? ⟨tb, 1, none⟩ = some (.map (some pb)) := q1.cell 1
          have hgl := hLg.out k hlt
          rw [HGf.out k, getD_inW hlt] at hgl
          have CALL := Lib.hid (IH q.2.2.2[k] g2 p2 (L ++ recsTo q q.2.2.1.length ++ kidsG G k) wr hp2 hst hgl PRrN.out hhb HL.out ⟨cs2, kg2, hg2h, good_Page.wide hr2 (Nat.zero_le _) (Nat.le_refl _)⟩)
          have HX := Lib.hid (show L ++ recsTo q q.2.2.1.length ++ kidsG G (k + 1) = L ++ recsTo q q.2.2.1.length ++ kidsG G k ++ gatherB x n q.2.2.2[k] by
            rw [kidsG_succ, HGf.out k, getD_inW hlt]
            simp only [List.append_assoc])
          clear q8 q2 q3 q4 q5 q6 q7 hp2 hst hf2 kg2 hr2 hgl keep
          go_wp2_with fail
          refine CALL.out.mono ?_
          rintro e w5 ⟨rfl, l5, v5⟩
          rw [← HX.out] at l5
          have HN5 := Lib.hid l5
          have HW5 := Lib.hid (HW.out.trans v5)
          clear l5 v5
          go_wp2_with fail
          go_roundw
          case rel => exact ⟨k + 1, by omega, by go_num, HN5, HW5⟩
          case measure => simp [intOf]; omega
        · obtain rfl : k = q.2.2.2.length := by omega
          clear hlt keep
          go_wp2_with fail
          refine bodyPost_end (v := .tuple #[]) (by simp [results, Tryz.results96, go_sem]) (by rfl) ?_
          refine ⟨rfl, ?_, HW.out⟩
          rw [← List.append_assoc]
          exact HL.out
theorem c_records {x : TBtree} (hs : SlotsP x.2) {lo' hi tb b lo : Nat} : ∀ n, RecN x lo' hi tb b lo n
  | 0 => fun id g p L w _ hst _ _ _ _ _ => hst.elim
  | n + 1 => records_in hs (c_records hs n)
end Go.Proofs.YtpjcgglhlmifdaaGreatDoor
