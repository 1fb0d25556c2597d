/-
  The leaf of a key, and BtGet: the program's.
-/
import Derived.Test.YtlifhbfomgbiaaaGreatDoorMWg
import Derived.Deep.LoopGhost
namespace Go.Proofs.YtlifhbfomgbiaaaGreatDoor
open Go.RowKit
set_option linter.unusedVariables false
set_option linter.unusedSimpArgs false

theorem getLast_cons_ne {α : Type} {a : α} {l : List α} (h : 0 < l.length) : (a :: l).getLast? = l.getLast? := by
  cases l with
  | nil => simp at h
  | cons b l => rw [List.getLast?_cons_cons]
def LeafP (x : TBtree) (key : ByteArray) (hi : Nat) (w : World) (e : Ending) (w' : World) : Prop :=
  ∃ g id q, e = .returned (.pointer (some ⟨g, 0, none⟩)) ∧ Up w w' ∧ pgAt x id = some q ∧ q.1 = true ∧ (wayB x key 64 x.1).1.getLast? = some (id, keyIdx q.2.1 key) ∧ (wayB x key 64 x.1).2 = keyHas q.2.1 key ∧ ∃ cs, Bk w' g 91 cs.toArray ∧ shPage.rep w' 0 hi cs q
set_option maxRecDepth 100000 in
set_option maxHeartbeats 8000000 in
theorem c_leaf {x : TBtree} (hs : SlotsP x.2) (hst : Stands x 64 x.1) (hr : I64 x.1) (key : ByteArray) {lo hi tb : Nat} {w : World} (PR : PagesR w lo hi tb x) (hhi : hi ≤ w.heap.size) :
    Calls Tryz.prog 130 #[.pointer (some ⟨tb, 0, none⟩), .string key] w (LeafP x key hi w) := by
  have PRN := Lib.hid PR
  have HS := Lib.hid hs
  have HST := Lib.hid hst
  obtain ⟨pb, n0, f, p1, p2, p3, p4, p5, p6, p7, p8⟩ := PR
  obtain ⟨pr, hpr⟩ : ∃ pr, pgAt x x.1 = some pr := by
    have h := hst
    obtain ⟨pr, hpr, _⟩ := h
    exact ⟨pr, hpr⟩
  obtain ⟨gr, csr, hfr, _, _, kgr, hrr⟩ := (p8 x.1).2 pr hpr
  have hlk := fun m => (p2.drewN m).look (t := 127) (e := 126) Tryz.underlying2 Tryz.underlying127 (zero_pagepW _) (i := x.1) hr
  rw [hfr] at hlk
  simp only [ptrOf] at hlk
  have gt0 : w.cell? ⟨tb, 0, none⟩ = some (.int .i64 x.1) := p1.cell 0
  have gt1 : w.cell? ⟨tb, 1, none⟩ = some (.map (some pb)) := p1.cell 1
  have hprN := Lib.hid hpr
  have HPG : Hid (∀ m, ∃ cs, Bk (w.drewN m) gr 91 cs.toArray ∧ shPage.rep (w.drewN m) 0 hi cs pr) := Lib.hid (fun m => ⟨csr, kgr, good_Page.wide hrr (Nat.zero_le _) (Nat.le_refl _)⟩)
  clear p8 p2 p3 p4 p5 p6 p7 hpr hfr kgr hrr hs hst
  go_enter Tryz.func130, Tryz.ntmps130
  go_wp2_with fail
  go_quiet (fail)
  go_wp2_with fail
  clear hlk gt0 gt1
  go_loopg [5] 64 (fun n s5 wr => ∃ (id : Int) (g : Nat) (p : TPage), s5 = .pointer (some ⟨g, 0, none⟩) ∧ Hid (Stands x n id) ∧ Hid (pgAt x id = some p) ∧ Hid ((wayB x key n id).1.getLast? = (wayB x key 64 x.1).1.getLast? ∧ (wayB x key n id).2 = (wayB x key 64 x.1).2) ∧ Hid (∃ cs, Bk wr g 91 cs.toArray ∧ shPage.rep wr 0 hi cs p) ∧ Up w wr)
  case atStart => exact ⟨x.1, gr, pr, rfl, HST, hprN, Lib.hid ⟨rfl, rfl⟩, Lib.hid (HPG.out nq), (Up.refl w).drewN nq⟩
  case round =>
    obtain ⟨id, g, p, rfl, ST, HP, HL, HG, hu⟩ := hrel
    clear HPG hprN
    obtain ⟨n, rfl⟩ : ∃ m, gk = m + 1 := by
      cases gk with
      | zero => exact ST.out.elim
      | succ m => exact ⟨m, rfl⟩
    have hst : ∃ p', pgAt x id = some p' ∧ (p'.1 = false → ∀ k, k < p'.2.2.2.length → Stands x n (p'.2.2.2.getD k 0)) := ST.out
    obtain ⟨p', hp', hkids⟩ := hst
    obtain rfl : p' = p := by rw [HP.out] at hp'; injection hp' with e; exact e.symm
    have hpb := pgAt_ok HS.out hp'
    obtain ⟨cs, kg, hrep⟩ := HG.out
    obtain ⟨A1, c1, A2, c2, A3, c3, rfl, b1, b2, b3⟩ := openPage hrep
    have hz := hu.size
    have gp0 : wr.cell? ⟨g, 0, none⟩ = some (.bool p'.1) := kg.cell 0
    have gp1 : wr.cell? ⟨g, 1, none⟩ = some (.slice A1 p'.2.1.length c1) := kg.cell 1
    have gp2 : wr.cell? ⟨g, 2, none⟩ = some (.slice A2 p'.2.2.1.length c2) := kg.cell 2
    have gp3 : wr.cell? ⟨g, 3, none⟩ = some (.slice A3 p'.2.2.2.length c3) := kg.cell 3
    have HW := Lib.hid (show wayB x key (n + 1) id = (if p'.1 = true then ([(id, (findB p' key).1)], (findB p' key).2) else ((id, (findB p' key).1) :: (wayB x key n (p'.2.2.2.getD (findB p' key).1 0)).1, (wayB x key n (p'.2.2.2.getD (findB p' key).1 0)).2)) by
      rw [wayB, hp'])
    have CF := Lib.hid (c_find (.agg #[.bool p'.1, .slice A1 p'.2.1.length c1, .slice A2 p'.2.2.1.length c2, .slice A3 p'.2.2.2.length c3]) p' key wr ⟨_, rfl, good_Page.wide hrep (Nat.le_refl _) (by omega)⟩ hpb)
    cases hl : p'.1
    · have hak := findB_lt hpb hl key
      have ST2 := Lib.hid (hkids hl _ hak)
      have HL2 := Lib.hid (show (wayB x key n (p'.2.2.2.getD (findB p' key).1 0)).1.getLast? = (wayB x key 64 x.1).1.getLast? ∧ (wayB x key n (p'.2.2.2.getD (findB p' key).1 0)).2 = (wayB x key 64 x.1).2 by
        have h1 := HL.out.1
        have h2 := HL.out.2
        rw [HW.out, if_neg (by rw [hl]; decide)] at h1 h2
        dsimp only at h1 h2
        rw [getLast_cons_ne (way_len (key := key) HS.out ST2.out).1] at h1
        exact ⟨h1, h2⟩)
      rw [getD_inW hak 0] at ST2 HL2
      have hki := (kid_of_pageD hpb hl).2.1 _ hak
      have hk6 := (kid_of_pageD hpb hl).1
      generalize hfa : (findB p' key).1 = a at CF hak ST2 HL2 hki
      generalize (findB p' key).2 = b at CF
      clear hfa HW HL hkids hrep HG ST
      rw [hl] at gp0
      have hlN := Lib.hid hl
      obtain ⟨gk', ok, rfl, _, _, hck, _⟩ := b3.at_I hak
      have haki : (a : Int) < (p'.2.2.2.length : Int) := by omega
      have ha0 : (0 : Int) ≤ (a : Int) := by omega
      rw [hl] at CF
      clear hl
      go_wp2_with fail
      refine CF.out.mono ?_
      rintro e w1 ⟨rfl, u1⟩
      have hu1 := hu.trans u1
      have kg1 := kg.up u1
      have g3' : w1.cell? ⟨g, 3, none⟩ = some (.slice (some ⟨gk', ok, none⟩) p'.2.2.2.length c3) := kg1.cell 3
      have hck1 : w1.cell? _ = _ := (u1.cell (cell_lt hck)).trans hck
      obtain ⟨p2', hp2'⟩ : ∃ q, pgAt x p'.2.2.2[a] = some q := by
        cases n with
        | zero => exact ST2.out.elim
        | succ m =>
          have h := ST2.out
          obtain ⟨q, hq, _⟩ := h
          exact ⟨q, hq⟩
      have PRr := PRN.out.up hu1 hhi
      obtain ⟨pb', n0', f', q1, q2, q3, q4, q5, q6, q7, q8⟩ := PRr
      obtain ⟨g2, cs2, hf2, _, _, kg2, hr2⟩ := (q8 p'.2.2.2[a]).2 p2' hp2'
      have hlk := fun m => (q2.drewN m).look (t := 127) (e := 126) Tryz.underlying2 Tryz.underlying127 (zero_pagepW _) (i := p'.2.2.2[a]) ⟨by omega, by omega⟩
      rw [hf2] at hlk
      simp only [ptrOf] at hlk
      have gt1 : w1.cell? ⟨tb, 1, none⟩ = some (.map (some pb')) := q1.cell 1
      have HP2 := Lib.hid hp2'
      have HG2 := Lib.hid (show ∀ m, ∃ cs, Bk (w1.drewN m) g2 91 cs.toArray ∧ shPage.rep (w1.drewN m) 0 hi cs p2' from fun m => ⟨cs2, kg2, good_Page.wide hr2 (Nat.zero_le _) (Nat.le_refl _)⟩)
      clear q8 q2 q3 q4 q5 q6 q7 hp2' hf2 kg2 hr2 hp' b1 b2 b3 gp0 gp1 gp2 gp3 hck CF
      go_wp2_with fail
      go_quiet (fail)
      go_wp2_with fail
      go_roundg n
      case rel => exact ⟨p'.2.2.2[a], g2, p2', rfl, ST2, HP2, HL2, Lib.hid (HG2.out nq), hu1.drewN nq⟩
      case measure => omega
    · rw [hl] at gp0
      have HE := Lib.hid (show (wayB x key 64 x.1).1.getLast? = some (id, keyIdx p'.2.1 key) ∧ (wayB x key 64 x.1).2 = keyHas p'.2.1 key by
        have h1 := HL.out.1
        have h2 := HL.out.2
        rw [HW.out, if_pos hl] at h1 h2
        refine ⟨h1.symm.trans ?_, h2.symm⟩
        show some (id, (findB p' key).1) = _
        unfold findB
        rw [if_neg (by rw [hl]; simp)])
      have HPp := Lib.hid (show pgAt x id = some p' ∧ p'.1 = true from ⟨hp', hl⟩)
      have HR := Lib.hid (show ∃ cs, Bk wr g 91 cs.toArray ∧ shPage.rep wr 0 hi cs p' from ⟨_, kg, hrep⟩)
      clear HW HL hkids hp' b1 b2 b3 hl gp1 gp2 gp3 CF hrep
      go_wp2_with fail
      refine bodyPost_ret (v := .pointer (some ⟨g, 0, none⟩)) (by simp [results, Tryz.results130, go_sem]) rfl ?_
      exact ⟨g, id, p', rfl, hu, HPp.out.1, HPp.out.2, HE.out.1, HE.out.2, HR.out⟩
end Go.Proofs.YtlifhbfomgbiaaaGreatDoor
