/-
  BtDepth: the reference's and the program's.
-/
import Derived.Test.YtlifhbfomgbiaaaGreatDoorMWd
namespace Go.Proofs.YtlifhbfomgbiaaaGreatDoor
open Go.RowKit
set_option linter.unusedVariables false
set_option linter.unusedSimpArgs false

set_option maxRecDepth 100000 in
set_option maxHeartbeats 8000000 in
theorem cs_BtDepth (v : Value) (y : TBtree) (w : World) (h : AV shBtree w v y) (hn : shBtree.sz y ≤ 1048576) : Calls Tryz.prog 26 #[v] w (RetV (.int .i64 (depthB y)) w) := by
  have hv := h
  obtain ⟨cs, rfl, h⟩ := h
  obtain ⟨r, x⟩ := y
  have ho := openBtree h
  dsimp only at ho
  obtain ⟨A0, c0, rfl, br, b00⟩ := ho
  clear h
  have kT := Bk.new w 39 #[.int .i64 r, .slice A0 x.length c0]
  have uu : Up w (w.alloc (.cells #[.int .i64 r, .slice A0 x.length c0] 39)) := (Up.refl w).alloc _
  have CB := Lib.hid (cs_BtreeOk _ (r, x) _ (hv.up good_Btree uu) hn)
  have HD : Hid (depthB (r, x) = if btreeB (r, x) = true then ((wayB (r, x) ⟨#[]⟩ 64 r).1.length : Int) else 0) := Lib.hid rfl
  generalize depthB (r, x) = R at HD ⊢
  have g0 : World.cell? _ ⟨w.heap.size, 0, none⟩ = some (.int .i64 r) := kT.cell 0
  have g1 : World.cell? _ ⟨w.heap.size, 1, none⟩ = some (.slice A0 x.length c0) := kT.cell 1
  go_enter Tryz.func26, Tryz.ntmps26
  go_wp2_with fail
  refine CB.out.mono ?_
  rintro e w1 ⟨rfl, u1⟩
  cases hb : btreeB (r, x)
  · have HR := Lib.hid (show R = 0 by rw [HD.out, hb]; rfl)
    clear HD hb CB g0 g1
    go_wp2_with fail
    refine bodyPost_ret (v := .int .i64 0) (by simp [results, Tryz.results26, go_sem]) rfl ?_
    exact ⟨by rw [HR.out], uu.trans u1⟩
  · have HR := Lib.hid (show R = ((wayB (r, x) ⟨#[]⟩ 64 r).1.length : Int) by rw [HD.out, hb]; rfl)
    have CW := Lib.hid (c_l16Way _ (r, x) ⟨#[]⟩ w1 (hv.up good_Btree (uu.trans u1)) (slots_of_btree hb) (stands_root hb))
    have g0' : w1.cell? ⟨w.heap.size, 0, none⟩ = some (.int .i64 r) := (u1.cell (cell_lt g0)).trans g0
    have g1' : w1.cell? ⟨w.heap.size, 1, none⟩ = some (.slice A0 x.length c0) := (u1.cell (cell_lt g1)).trans g1
    clear HD hb CB g0 g1
    go_wp2_with fail
    refine CW.out.mono ?_
    rintro e w2 ⟨D, d, bl, rfl, so, u2⟩
    clear so
    go_wp2_with fail
    refine bodyPost_ret (v := .int .i64 ((wayB (r, x) ⟨#[]⟩ 64 r).1.length : Int)) (by simp [results, Tryz.results26, go_sem]) rfl ?_
    exact ⟨by rw [HR.out], (uu.trans u1).trans u2⟩
theorem keyB_nil : keyB ⟨#[]⟩ = false := by decide +kernel
theorem bytesLt_nil (a : ByteArray) : bytesLt a ⟨#[]⟩ = false := by
  unfold bytesLt
  rw [ByteArray.toList_eq, ByteArray.toList_eq]
  cases a.data.toList <;> rfl
theorem findB_nil {p : TPage} (h : pageB p = true) : findB p ⟨#[]⟩ = (0, false) := by
  have h0 : keyIdx p.2.1 ⟨#[]⟩ = 0 := keyIdx_eq (Nat.zero_le _) (fun j hj h1 => absurd h1 (by omega)) (fun hk => bytesLt_nil _)
  have h1 : keyHas p.2.1 ⟨#[]⟩ = false := by
    unfold keyHas
    rw [h0]
    by_cases hl : 0 < p.2.1.length
    · have hk := (page_keysP h 0 hl).1
      have hq : decide (p.2.1[0] = ⟨#[]⟩) = false := decide_eq_false (fun e => by rw [e, keyB_nil] at hk; cases hk)
      rw [getD_inW hl, hq]
      simp
    · rw [decide_eq_false hl]; rfl
  unfold findB
  rw [h0, h1, if_neg (by simp)]
theorem zero_pagepW (w : World) : (zeroValue 126).run Tryz.prog w = .ok (.pointer none) w := by kernel_rfl
theorem PMap.drewN {P : Program} {k : TypeId} {w : World} {b n : Nat} {f : Int → Option Nat} (h : PMap P k w b n f) (m : Nat) : PMap P k (w.drewN m) b n f := h
set_option maxRecDepth 100000 in
set_option maxHeartbeats 8000000 in
theorem ci_BtDepth (v : Value) (y : TBtree) (w : World) (h : AV shBtree w v y) (hn : shBtree.sz y ≤ 1048576) (htab : Tab w) (hm : MaxL w) : Calls Tryz.prog 27 #[v] w (RetV (.int .i64 (depthB y)) w) := by
  have hv := h
  obtain ⟨cs, rfl, h⟩ := h
  obtain ⟨r, x⟩ := y
  have ho := openBtree h
  dsimp only at ho
  obtain ⟨A0, c0, rfl, br, b00⟩ := ho
  clear h
  have kT := Bk.new w 39 #[.int .i64 r, .slice A0 x.length c0]
  have uu : Up w (w.alloc (.cells #[.int .i64 r, .slice A0 x.length c0] 39)) := (Up.refl w).alloc _
  have CB := Lib.hid (ci_BtreeOk _ (r, x) _ (hv.up good_Btree uu) hn (tab_up htab uu) (maxL_up hm uu))
  have HD : Hid (depthB (r, x) = if btreeB (r, x) = true then ((wayB (r, x) ⟨#[]⟩ 64 r).1.length : Int) else 0) := Lib.hid rfl
  generalize depthB (r, x) = R at HD ⊢
  have g0 : World.cell? _ ⟨w.heap.size, 0, none⟩ = some (.int .i64 r) := kT.cell 0
  have g1 : World.cell? _ ⟨w.heap.size, 1, none⟩ = some (.slice A0 x.length c0) := kT.cell 1
  go_enter Tryz.func27, Tryz.ntmps27
  go_wp2_with fail
  refine CB.out.mono ?_
  rintro e w1 ⟨rfl, u1⟩
  cases hb : btreeB (r, x)
  · have HR := Lib.hid (show R = 0 by rw [HD.out, hb]; rfl)
    clear HD hb CB g0 g1
    go_wp2_with fail
    refine bodyPost_ret (v := .int .i64 0) (by simp [results, Tryz.results27, go_sem]) rfl ?_
    exact ⟨by rw [HR.out], uu.trans u1⟩
  · have HR := Lib.hid (show R = ((wayB (r, x) ⟨#[]⟩ 64 r).1.length : Int) by rw [HD.out, hb]; rfl)
    have HS := Lib.hid (slots_of_btree hb)
    have HST := Lib.hid (stands_root hb)
    have CPG := Lib.hid (c_pagesOf _ (r, x) w1 (hv.up good_Btree (uu.trans u1)) HS.out hn)
    have g0' : w1.cell? ⟨w.heap.size, 0, none⟩ = some (.int .i64 r) := (u1.cell (cell_lt g0)).trans g0
    have g1' : w1.cell? ⟨w.heap.size, 1, none⟩ = some (.slice A0 x.length c0) := (u1.cell (cell_lt g1)).trans g1
    have HTL := Lib.hid (way_len (key := ⟨#[]⟩) HS.out HST.out)
    obtain ⟨T, hTe⟩ : ∃ T, T = (wayB (r, x) ⟨#[]⟩ 64 r).1.length := ⟨_, rfl⟩
    have hT64 : T ≤ 64 := by have := HTL.out.2; dsimp only at this; omega
    have HTE := Lib.hid hTe
    clear HD hb CB g0 g1 hTe
    go_wp2_with fail
    refine CPG.out.mono ?_
    rintro e w2 ⟨tb, rfl, PR, u2⟩
    have PRN := Lib.hid PR
    obtain ⟨pb, n0, f, p1, p2, p3, p4, p5, p6, p7, p8⟩ := PR
    obtain ⟨pr, hpr⟩ : ∃ pr, pgAt (r, x) r = some pr := by
      have h := HST.out
      obtain ⟨pr, hpr, _⟩ := h
      exact ⟨pr, hpr⟩
    obtain ⟨gr, csr, hfr, _, _, kgr, hrr⟩ := (p8 r).2 pr hpr
    have hlk := fun m => (p2.drewN m).look (t := 127) (e := 126) Tryz.underlying2 Tryz.underlying127 (zero_pagepW _) (i := r) br
    rw [hfr] at hlk
    simp only [ptrOf] at hlk
    have gt0 : w2.cell? ⟨tb, 0, none⟩ = some (.int .i64 r) := p1.cell 0
    have gt1 : w2.cell? ⟨tb, 1, none⟩ = some (.map (some pb)) := p1.cell 1
    have hprN := Lib.hid hpr
    have HPG : Hid (∃ cs, Bk w2 gr 91 cs.toArray ∧ shPage.rep w2 0 w2.heap.size cs pr) := Lib.hid ⟨csr, kgr, good_Page.wide hrr (Nat.zero_le _) (Nat.le_refl _)⟩
    clear p8 p2 p3 p4 p5 p6 p7 hpr hfr kgr hrr CPG
    go_wp2_with fail
    go_quiet (fail)
    go_wp2_with fail
    clear hlk gt0 gt1
    go_loopw [4, 5] (fun s4 s5 wr => ∃ (n : Nat) (id : Int) (d g : Nat) (p : TPage), s4 = .int .i64 d ∧ s5 = .pointer (some ⟨g, 0, none⟩) ∧ 1 ≤ d ∧ Hid (Stands (r, x) n id) ∧ Hid (pgAt (r, x) id = some p) ∧ Hid (d + (wayB (r, x) ⟨#[]⟩ n id).1.length = T + 1) ∧ Hid (∃ cs, Bk wr g 91 cs.toArray ∧ shPage.rep wr 0 w2.heap.size cs p) ∧ Up w2 wr) (fun s4 _ _ => T + 1 - (intOf s4).toNat)
    case atStart => exact ⟨64, r, 1, gr, pr, rfl, rfl, Nat.le_refl _, HST, hprN, Lib.hid (by have := HTE.out; omega), HPG, (Up.refl w2).drewN nq⟩
    case round =>
      obtain ⟨n, id, d, g, p, rfl, rfl, hd1, ST, HP, HL, HG, hu⟩ := hrel
      clear HPG
      obtain ⟨n, rfl⟩ : ∃ m, n = m + 1 := by
        cases n with
        | zero => exact ST.out.elim
        | succ m => exact ⟨m, rfl⟩
      have hst : ∃ p', pgAt (r, x) id = some p' ∧ (p'.1 = false → ∀ k, k < p'.2.2.2.length → Stands (r, x) n (p'.2.2.2.getD k 0)) := ST.out
      obtain ⟨p', hp', hkids⟩ := hst
      obtain rfl : p' = p := by rw [HP.out] at hp'; injection hp' with e; exact e.symm
      have hpb := pgAt_ok (x := (r, x)) HS.out hp'
      obtain ⟨cs, kg, hrep⟩ := HG.out
      obtain ⟨A1, c1, A2, c2, A3, c3, rfl, b1, b2, b3⟩ := openPage hrep
      have gp0 : wr.cell? ⟨g, 0, none⟩ = some (.bool p'.1) := kg.cell 0
      have gp3 : wr.cell? ⟨g, 3, none⟩ = some (.slice A3 p'.2.2.2.length c3) := kg.cell 3
      have HW := Lib.hid (show wayB (r, x) ⟨#[]⟩ (n + 1) id = (if p'.1 = true then ([(id, 0)], false) else ((id, 0) :: (wayB (r, x) ⟨#[]⟩ n (p'.2.2.2.getD 0 0)).1, (wayB (r, x) ⟨#[]⟩ n (p'.2.2.2.getD 0 0)).2)) by
        rw [wayB, hp']
        dsimp only
        rw [findB_nil hpb])
      clear hrep kg HG ST HP
      cases hl : p'.1
      · rw [hl] at gp0
        have hkd := kid_of_pageD hpb hl
        have h0 : 0 < p'.2.2.2.length := by omega
        have hki := hkd.2.1 0 h0
        obtain ⟨gk, ok, rfl, _, _, hck, _⟩ := b3.at_I h0
        have hck' : wr.cell? ⟨gk, ok, none⟩ = some (.int .i64 p'.2.2.2[0]) := by simpa using hck
        clear hck
        have h0i : (0 : Int) < (p'.2.2.2.length : Int) := by omega
        have ST2 := Lib.hid (hkids hl 0 h0)
        have HL2 := Lib.hid (show (d + 1) + (wayB (r, x) ⟨#[]⟩ n (p'.2.2.2.getD 0 0)).1.length = T + 1 by
          rw [← HL.out, HW.out, if_neg (by rw [hl]; decide)]
          simp only [List.length_cons]
          omega)
        rw [getD_inW h0 0] at ST2 HL2
        have hdT : d ≤ T := by
          have h1 := HL2.out
          have h2 := (way_len (key := ⟨#[]⟩) HS.out ST2.out).1
          omega
        obtain ⟨p2', hp2', _⟩ : ∃ q, pgAt (r, x) p'.2.2.2[0] = some q ∧ True := by
          cases n with
          | zero => exact ST2.out.elim
          | succ m =>
            have h := ST2.out
            obtain ⟨q, hq, _⟩ := h
            exact ⟨q, hq, trivial⟩
        have PRr := PRN.out.up hu (Nat.le_refl _)
        obtain ⟨pb', n0', f', q1, q2, q3, q4, q5, q6, q7, q8⟩ := PRr
        obtain ⟨g2, cs2, hf2, _, _, kg2, hr2⟩ := (q8 p'.2.2.2[0]).2 p2' hp2'
        have hlk := fun m => (q2.drewN m).look (t := 127) (e := 126) Tryz.underlying2 Tryz.underlying127 (zero_pagepW _) (i := p'.2.2.2[0]) ⟨by omega, by omega⟩
        rw [hf2] at hlk
        simp only [ptrOf] at hlk
        have gt1 : wr.cell? ⟨tb, 1, none⟩ = some (.map (some pb')) := q1.cell 1
        have HP2 := Lib.hid hp2'
        have HG2 : ∀ m, Hid (∃ cs, Bk (wr.drewN m) g2 91 cs.toArray ∧ shPage.rep (wr.drewN m) 0 w2.heap.size cs p2') := fun m => Lib.hid ⟨cs2, kg2, good_Page.wide hr2 (Nat.zero_le _) (Nat.le_refl _)⟩
        have HG2N := Lib.hid HG2
        clear q8 q2 q3 q4 q5 q6 q7 hp2' hf2 kg2 hr2 HW HL hkids hp' b1 b2 b3 hl HG2 hkd
        go_wp2_with fail
        go_quiet (fail)
        go_wp2_with fail
        go_roundw
        case rel => exact ⟨n, p'.2.2.2[0], d + 1, g2, p2', by go_num, rfl, by omega, ST2, HP2, HL2, HG2N.out nq, hu.drewN nq⟩
        case measure => simp [intOf]; omega
      · rw [hl] at gp0
        have HdT := Lib.hid (show d = T by
          have := HL.out
          rw [HW.out, if_pos hl] at this
          simp at this
          exact this)
        clear HW HL hkids hp' b1 b2 b3 hl gp3
        go_wp2_with fail
        refine bodyPost_ret (v := .int .i64 (d : Int)) (by simp [results, Tryz.results27, go_sem]) rfl ?_
        exact ⟨by rw [HR.out, HdT.out, HTE.out], ((uu.trans u1).trans u2).trans hu⟩
end Go.Proofs.YtlifhbfomgbiaaaGreatDoor
