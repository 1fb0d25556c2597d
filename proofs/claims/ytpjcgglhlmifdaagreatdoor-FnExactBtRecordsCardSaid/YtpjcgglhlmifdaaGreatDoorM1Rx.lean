/-
  All records, and BtRecords: the program's.
-/
import Derived.Test.YtpjcgglhlmifdaaGreatDoorM1Rw
namespace Go.Proofs.YtpjcgglhlmifdaaGreatDoor
open Go.RowKit
set_option linter.unusedVariables false
set_option linter.unusedSimpArgs false

set_option maxRecDepth 100000 in
set_option maxHeartbeats 8000000 in
theorem c_all {x : TBtree} (hb : btreeB x = true) (hr : I64 x.1) {lo' hi tb : Nat} {w : World} (PR : PagesR w lo' hi tb x) (hhi : hi ≤ w.heap.size) :
    Calls Tryz.prog 53 #[.pointer (some ⟨tb, 0, none⟩)] w (ToL shRecord (gatherB x 64 x.1) w) := by
  have hs := slots_of_btree hb
  have hst := stands_root hb
  have h384 := gather_root hb
  have uu : Up w ((w.alloc (.cells #[] 101)).alloc (.cells #[.slice (some ⟨w.heap.size, 0, none⟩) 0 0] 26)) := ((Up.refl _).alloc _).alloc _
  have kl : Bk ((w.alloc (.cells #[] 101)).alloc (.cells #[.slice (some ⟨w.heap.size, 0, none⟩) 0 0] 26)) (w.heap.size + 1) 26 #[.slice (some ⟨w.heap.size, 0, none⟩) 0 0] := by
    simpa using Bk.new (w.alloc (.cells #[] 101)) 26 #[.slice (some ⟨w.heap.size, 0, none⟩) 0 0]
  have zz : ((w.alloc (.cells #[] 101)).alloc (.cells #[.slice (some ⟨w.heap.size, 0, none⟩) 0 0] 26)).heap.size = w.heap.size + 2 := by simp
  obtain ⟨pr, hpr⟩ : ∃ pr, pgAt x x.1 = some pr := by
    have h := hst
    obtain ⟨pr, hpr, _⟩ := h
    exact ⟨pr, hpr⟩
  have EG := eg_visit
  obtain ⟨L, hLe⟩ : ∃ L, L = gatherB x 64 x.1 := ⟨_, rfl⟩
  rw [← hLe]
  have HLE := Lib.hid hLe
  clear hLe
  go_enter Tryz.func53, Tryz.ntmps53
  go_wp2_with fail
  generalize ((w.alloc (.cells #[] 101)).alloc (.cells #[.slice (some ⟨w.heap.size, 0, none⟩) 0 0] 26)) = W0 at uu kl zz ⊢
  have PR0 := (PR.up uu hhi)
  have PRN : Hid (PagesR W0.drew lo' hi tb x) := Lib.hid (PR0.up (Up.refl W0).drew (by omega))
  obtain ⟨pb, n0, f, p1, p2, p3, p4, p5, p6, p7, p8⟩ := PR0
  obtain ⟨gr, csr, hfr, _, hgrh, kgr, hrr⟩ := (p8 x.1).2 pr hpr
  have hlk := (show PMap Tryz.prog 2 W0.drew pb n0 f from p2).look (t := 154) (e := 158) Tryz.underlying2 Tryz.underlying154 (zero_pagepRw _) (i := x.1) hr
  rw [hfr] at hlk
  simp only [ptrOf] at hlk
  have gt0 : W0.drew.cell? ⟨tb, 0, none⟩ = some (.int .i64 x.1) := p1.cell 0
  have gt1 : W0.drew.cell? ⟨tb, 1, none⟩ = some (.map (some pb)) := p1.cell 1
  have LR : ListR W0.drew (w.heap.size + 1) (w.heap.size + 2) [] := ⟨some ⟨w.heap.size, 0, none⟩, 0, [], kl, ⟨Nat.le_refl _, Nat.zero_le _, .inl ⟨rfl, rfl, rfl⟩⟩, List.nodup_nil, by omega, by show _ ≤ W0.heap.size; omega⟩
  have CALL := Lib.hid (c_records hs 64 x.1 gr pr [] W0.drew hpr hst (by simpa using (by omega : (gatherB x 64 x.1).length ≤ 390)) PRN.out (by omega) LR ⟨csr, kgr, hgrh, good_Page.wide hrr (Nat.zero_le _) (Nat.le_refl _)⟩)
  rw [List.nil_append, ← HLE.out] at CALL
  clear p8 p1 p2 p3 p4 p5 p6 p7 hpr hfr kgr hrr LR hs hst h384 PR hb
  go_region_with (go_at_call 96; refine CALL.out.mono ?_; rintro e w5 ⟨rfl, ⟨D, d, bl, k5, so5, nd5, hb5, hlo5⟩, v5⟩; have g5 : w5.cell? ⟨w.heap.size + 1, 0, none⟩ = some (.slice D L.length d) := k5.cell 0)
  all_goals (go_wp2_with fail)
  all_goals (refine bodyPost_ret (v := .slice D L.length d) (by simp [results, Tryz.results53, go_sem]) rfl ?_)
  all_goals (exact ⟨D, d, bl, rfl, so5.wide good_Record (lo' := w.heap.size) (by omega) (Nat.le_refl _), nd5, ⟨v5.os.trans uu.os, v5.tape.trans uu.tape, v5.output.trans uu.output, Nat.le_trans uu.size v5.size, fun i hi => (v5.block i (by omega) (by omega)).trans (uu.block i hi)⟩⟩)
set_option maxRecDepth 100000 in
set_option maxHeartbeats 8000000 in
theorem ci_BtRecords (v : Value) (y : TBtree) (w : World) (h : AV shBtree w v y) (hn : shBtree.sz y ≤ 1048576) (htab : Tab w) (hm : MaxL w) : Calls Tryz.prog 13 #[v] w (ToL shRecord (recordsB y) w) := by
  have hv := h
  obtain ⟨cs, rfl, h⟩ := h
  obtain ⟨r, x⟩ := y
  have ho := openBtree h
  dsimp only at ho
  obtain ⟨A0, c0, rfl, br, b00⟩ := ho
  clear h
  have kT := Bk.new w 30 #[.int .i64 r, .slice A0 x.length c0]
  have uu : Up w (w.alloc (.cells #[.int .i64 r, .slice A0 x.length c0] 30)) := (Up.refl w).alloc _
  have CB := Lib.hid (ci_BtreeOk _ (r, x) _ (hv.up good_Btree uu) hn (tab_up htab uu) (maxL_up hm uu))
  have g0 : World.cell? _ ⟨w.heap.size, 0, none⟩ = some (.int .i64 r) := kT.cell 0
  have g1 : World.cell? _ ⟨w.heap.size, 1, none⟩ = some (.slice A0 x.length c0) := kT.cell 1
  have HE0 := Lib.hid (fun (hb : btreeB (r, x) = false) => show recordsB (r, x) = [] by unfold recordsB; rw [if_neg (by rw [hb]; decide)])
  have HE1 := Lib.hid (fun (hb : btreeB (r, x) = true) => show recordsB (r, x) = gatherB (r, x) 64 r by unfold recordsB; rw [if_pos hb])
  generalize recordsB (r, x) = L at HE0 HE1 ⊢
  go_enter Tryz.func13, Tryz.ntmps13
  go_wp2_with fail
  refine CB.out.mono ?_
  rintro e w1 ⟨rfl, u1⟩
  cases hb : btreeB (r, x)
  · have HE := Lib.hid (HE0.out hb)
    clear hb CB g0 g1 HE0 HE1
    go_wp2_with fail
    refine bodyPost_ret (v := .slice none 0 0) (by simp [results, Tryz.results13, go_sem]) rfl ?_
    have hL := HE.out
    subst hL
    exact ⟨none, 0, [], rfl, SO.nil _ _ _, List.nodup_nil, uu.trans u1⟩
  · have HE := Lib.hid (HE1.out hb)
    have CPG := Lib.hid (c_pagesOf _ (r, x) w1 (hv.up good_Btree (uu.trans u1)) (slots_of_btree hb) hn)
    have g0' : w1.cell? ⟨w.heap.size, 0, none⟩ = some (.int .i64 r) := (u1.cell (cell_lt g0)).trans g0
    have g1' : w1.cell? ⟨w.heap.size, 1, none⟩ = some (.slice A0 x.length c0) := (u1.cell (cell_lt g1)).trans g1
    have HA := Lib.hid (fun lo' hi tb W PR hhi => c_all (x := (r, x)) hb br (lo' := lo') (hi := hi) (tb := tb) (w := W) PR hhi)
    clear hb CB g0 g1 HE0 HE1
    go_wp2_with fail
    refine CPG.out.mono ?_
    rintro e w2 ⟨tb, rfl, PR, u2⟩
    have CA := Lib.hid (HA.out _ _ _ _ PR (Nat.le_refl _))
    have CA' : Hid (Calls Tryz.prog 53 #[.pointer (some ⟨tb, 0, none⟩)] w2 (ToL shRecord L w2)) := Lib.hid (by rw [HE.out]; exact CA.out)
    clear CA
    clear CPG PR HA
    go_wp2_with fail
    refine CA'.out.mono ?_
    rintro e w3 ⟨A, c, bl3, rfl, so3, nd3, u3⟩
    have zz3 := ((uu.trans u1).trans u2).size
    go_wp2_with fail
    refine bodyPost_ret (v := .slice A L.length c) (by simp [results, Tryz.results13, go_sem]) rfl ?_
    exact ⟨A, c, bl3, rfl, so3.wide good_Record (lo' := w.heap.size) zz3 (Nat.le_refl _), nd3, ((uu.trans u1).trans u2).trans u3⟩
end Go.Proofs.YtpjcgglhlmifdaaGreatDoor
