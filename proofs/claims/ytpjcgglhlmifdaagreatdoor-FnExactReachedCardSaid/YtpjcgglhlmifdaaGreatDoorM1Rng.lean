/-
  BtAfter: the reference's.
  The records below a page: the program's.
  The records below a page: the program's, one page.
  All records, and BtRecords: the program's.
  BtAfter: the program's.
  BtRecords: the reference's (not built yet: r9's seat has no spec.BtRecords).
  Records: the laws' eq, mark and held helpers, by genlaw.py and genmark.py.
  BtRecords: both sides as the law wants them; bounds of the marks.
-/
import Derived.Test.YtpjcgglhlmifdaaGreatDoorM1Rh
import Derived.Test.YtpjcgglhlmifdaaGreatDoorM1Bmg
import Derived.Test.YtpjcgglhlmifdaaGreatDoorM1M
import Derived.Test.YtpjcgglhlmifdaaGreatDoorM1Le
import Derived.Test.YtpjcgglhlmifdaaGreatDoorM1Wdg
import Derived.Test.YtpjcgglhlmifdaaGreatDoorM1A
import Derived.StillTailTactics
namespace Go.Proofs.YtpjcgglhlmifdaaGreatDoor
open Go.RowKit
set_option linter.unusedVariables false
set_option linter.unusedSimpArgs false

end Go.Proofs.YtpjcgglhlmifdaaGreatDoor

namespace Go.Proofs.YtpjcgglhlmifdaaGreatDoor
open Go.RowKit
set_option linter.unusedVariables false
set_option linter.unusedSimpArgs false

/-- The list in box b, all it owns from lo on. -/
def ListR (w : World) (b lo : Nat) (L : List TRecord) : Prop :=
  ∃ D d bl, Bk w b 26 #[.slice D L.length d] ∧ SO shRecord w lo w.heap.size D d L bl ∧ bl.Nodup ∧ b < lo ∧ lo ≤ w.heap.size
/-- Below lo at most block b has turned. -/
structure LW (b lo : Nat) (w w' : World) : Prop where
  os : w'.os = w.os
  tape : w'.tape = w.tape
  output : w'.output = w.output
  size : w.heap.size ≤ w'.heap.size
  block : ∀ k, k < lo → k ≠ b → w'.heap[k]? = w.heap[k]?
theorem LW.refl (b lo : Nat) (w : World) : LW b lo w w := ⟨rfl, rfl, rfl, Nat.le_refl _, fun _ _ _ => rfl⟩
theorem LW.trans {b lo : Nat} {x y z : World} (h : LW b lo x y) (k : LW b lo y z) : LW b lo x z := ⟨k.os.trans h.os, k.tape.trans h.tape, k.output.trans h.output, Nat.le_trans h.size k.size, fun i h1 h2 => (k.block i h1 h2).trans (h.block i h1 h2)⟩
theorem LW.bk {b lo : Nat} {w w' : World} (h : LW b lo w w') {g : Nat} {t : TypeId} {C : Array Value} (k : Bk w g t C) (hg : g < lo) (hb : g ≠ b) : Bk w' g t C := (h.block g hg hb).trans k
theorem PagesR.same {w w' : World} {lo hi tb : Nat} {x : TBtree} (h : PagesR w lo hi tb x) (u : ∀ k, k < hi → w'.heap[k]? = w.heap[k]?) : PagesR w' lo hi tb x := by
  obtain ⟨pb, n, f, h1, h2, h3, h4, h5, h6, h7, h8⟩ := h
  refine ⟨pb, n, f, (u _ h5).trans h1, h2.same (u _ h7), h3, h4, h5, h6, h7, fun id => ⟨(h8 id).1, fun p hp => ?_⟩⟩
  obtain ⟨g', cs, q1, q2, q3, q4, q5⟩ := (h8 id).2 p hp
  exact ⟨g', cs, q1, q2, q3, (u _ q3).trans q4, good_Page.keep q5 (fun y h1 h2 => u y h2)⟩
theorem cinfo_RecI : (Tryz.prog.info? 101).map (fun i => (i.zero, i.size, i.bytes)) = some (some (.agg #[.string ⟨#[]⟩, .string ⟨#[]⟩]), 2, 32) := by kernel_rfl
def VisP (b lo : Nat) (L : List TRecord) (w : World) (e : Ending) (w' : World) : Prop := e = .returned (.tuple #[]) ∧ ListR w' b lo L ∧ LW b lo w w'
set_option maxRecDepth 100000 in
set_option maxHeartbeats 4000000 in
theorem c_visit (b lo : Nat) (L : List TRecord) (k v : ByteArray) (w : World) (hk : k.size ≤ maxLen) (hv : v.size ≤ maxLen) (h : ListR w b lo L) (hl : L.length ≤ 1000) :
    Calls Tryz.prog 97 #[.agg #[.string k, .string v], .pointer (some ⟨b, 0, none⟩)] w (VisP b lo (L ++ [(k, v)]) w) := by
  obtain ⟨i0, hi0, hz0, hz1, hz2⟩ := info_parts cinfo_RecI
  obtain ⟨D, d, bl, kb, so, nd, hb, hlo⟩ := h
  have u1 : Up w ((w.alloc (.cells #[.string k, .string v] 101)).alloc (.cells #[.string k, .string v] 101)) := ((Up.refl _).alloc _).alloc _
  have kq : Bk ((w.alloc (.cells #[.string k, .string v] 101)).alloc (.cells #[.string k, .string v] 101)) (w.heap.size + 1) 101 #[.string k, .string v] := by
    simpa using Bk.new (w.alloc (.cells #[.string k, .string v] 101)) 101 #[.string k, .string v]
  have gb : (w.alloc (.cells #[.string k, .string v] 101)).cell? ⟨b, 0, none⟩ = some (.slice D L.length d) := (kb.alloc _).cell 0
  have hx1 : (L.length + 1) * i0.bytes ≤ 140737488355328 := by rw [hz2]; omega
  have hx2 : L.length + 1 ≤ maxLen := by unfold maxLen; omega
  have hin := so.in_ good_Record
  have kb1 := kb.up u1
  have so1 := so.up good_Record u1
  have ho : shRecord.own ((w.alloc (.cells #[.string k, .string v] 101)).alloc (.cells #[.string k, .string v] 101)) lo ((w.alloc (.cells #[.string k, .string v] 101)).alloc (.cells #[.string k, .string v] 101)).heap.size [.string k, .string v] (k, v) [] := mkORecord (x := (k, v)) hk hv
  have hlo1 := Nat.le_trans hlo u1.size
  have hbn : b ∉ bl := fun hm => by have := (hin _ hm).1; omega
  go_enter Tryz.func97, Tryz.ntmps97
  go_wp2_with (first
    | (at_builtin
       refine wpList_app good_Record rfl _ _ _ _ 101 rfl i0 _ Tryz.underlying26 hi0 hz0 hz1 (by rfl) (lo := lo) (xs := L) (ys := [(k, v)]) (bl := bl) (bs := [[]]) (news := [.string k, .string v]) rfl rfl so1 (by simpa using nd) (Src.box (t := 101) Tryz.underlying26 kq (by simp [Value.oneCell']) (by rw [hz1]; rfl)) (Rowed.one good_Record ho) hlo1 hx1 hx2 ?_
       intro D9 d9 bl9 w9 hap
       obtain ⟨so9, nd9, mem9, on9⟩ := hap
       have kb9 := kb1.only on9 hbn
       have gb9 : w9.cell? ⟨b, 0, none⟩ = some (.slice D L.length d) := kb9.cell 0
       have fb9 := kb9.frozen 0))
  refine bodyPost_end (v := .tuple #[]) (by simp [results, Tryz.results97, go_sem]) (by rfl) ?_
  have bt := But.set w9 b 0 (.slice D9 (L.length + 1) d9)
  have hb9 : ∀ y ∈ bl9, lo ≤ y := fun y hy => (so9.in_ good_Record y hy).1
  have kbE := kb9.set 0 (.slice D9 (L.length + 1) d9)
  refine ⟨rfl, ⟨D9, d9, bl9, ?_, so9.but good_Record bt hb, nd9, hb, by rw [bt.size]; exact Nat.le_trans hlo1 on9.size⟩, ?_⟩
  · rw [List.length_append]
    exact kbE
  · exact ⟨bt.os.trans (on9.os.trans u1.os), bt.tape.trans (on9.tape.trans u1.tape), bt.output.trans (on9.output.trans u1.output), by rw [bt.size]; exact Nat.le_trans u1.size on9.size, fun i hi hne => (bt.block i hne).trans ((on9.block i (by omega) (fun hm => by have := (hin _ hm).1; omega)).trans (u1.block i (by omega)))⟩
theorem eg_visit : ∀ args w, (callFunc 97 args).run Tryz.prog w = .ok (.enter 97 args) w := enters_of Tryz.func97 (by kernel_rfl) rfl
end Go.Proofs.YtpjcgglhlmifdaaGreatDoor

namespace Go.Proofs.YtpjcgglhlmifdaaGreatDoor
open Go.RowKit
set_option linter.unusedVariables false
set_option linter.unusedSimpArgs false

theorem zero_pagepRw (w : World) : (zeroValue 158).run Tryz.prog w = .ok (.pointer none) w := by kernel_rfl
def RecN (x : TBtree) (lo' hi tb b lo n : Nat) : Prop :=
  ∀ (id : Int) (g : Nat) (p : TPage) (L : List TRecord) (w : World), pgAt x id = some p → Stands x n id → L.length + (gatherB x n id).length ≤ 390 → PagesR w lo' hi tb x → hi ≤ b → ListR w b lo L → (∃ cs, Bk w g 88 cs.toArray ∧ g < hi ∧ shPage.rep w 0 hi cs p) →
    Calls Tryz.prog 96 #[.pointer (some ⟨tb, 0, none⟩), .pointer (some ⟨g, 0, none⟩), .func (.func 97) #[] #[.pointer (some ⟨b, 0, none⟩)]] w (VisP b lo (L ++ gatherB x n id) w)
def recsL (p : TPage) (k : Nat) : List TRecord := if p.1 = true then recsTo p k else []
set_option maxRecDepth 100000 in
set_option maxHeartbeats 16000000 in
theorem records_in {x : TBtree} (hs : SlotsP x.2) {lo' hi tb b lo n : Nat} (IH : RecN x lo' hi tb b lo n) : RecN x lo' hi tb b lo (n + 1) := by
  intro id g p L w hp hst hlen PR hhb LR hpg
  obtain ⟨q, hq, hkids⟩ := hst
  obtain rfl : q = p := by rw [hp] at hq; injection hq with e; exact e.symm
  clear hq
  have hpb := pgAt_ok hs hp
  have hg : gatherB x (n + 1) id = recsTo q q.2.2.1.length ++ kidsG (fun k => gatherB x n (q.2.2.2.getD k 0)) q.2.2.2.length := by rw [gatherB, hp]
  rw [hg] at hlen ⊢
  clear hg
  rw [List.length_append, recsTo_len] at hlen
  generalize hGf : (fun k => gatherB x n (q.2.2.2.getD k 0)) = G at hlen ⊢
  have HGf := Lib.hid (fun k => (congrFun hGf k).symm)
  clear hGf
  have HEND := Lib.hid (show recsL q q.2.1.length = recsTo q q.2.2.1.length by
    unfold recsL
    cases hl : q.1
    · rw [fork_vals hpb hl]; rfl
    · rw [(leaf_kids hpb hl).2.1]; rfl)
  have HKR := Lib.hid (fun k (hk : k < q.2.2.2.length) => show I64 q.2.2.2[k] by
    cases hl : q.1
    · exact kid_rng hpb hl k hk
    · have := (leaf_kids hpb hl).1; omega)
  have HKS := Lib.hid (fun k (hk : k < q.2.2.2.length) => show Stands x n q.2.2.2[k] by
    cases hl : q.1
    · have := hkids hl k hk
      rw [getD_inW hk] at this
      exact this
    · have := (leaf_kids hpb hl).1; omega)
  have h6 := keys_le6 hpb
  have HVK := Lib.hid (fun (hl : q.1 = true) => (leaf_kids hpb hl).2.1)
  have HKL := Lib.hid (show q.2.2.2.length ≤ 6 by
    cases hl : q.1
    · exact (kid_of_pageD hpb hl).1
    · have := leaf_kids hpb hl; omega)
  obtain ⟨cs, kg, hgh, hrep⟩ := hpg
  obtain ⟨A1, c1, A2, c2, A3, c3, rfl, b1, b2, b3⟩ := openPage hrep
  have hblo : b < lo := by obtain ⟨_, _, _, _, _, _, h, _⟩ := LR; exact h
  have hLv : q.2.2.1.length + L.length ≤ 390 := by omega
  have hLk := Lib.hid (fun k (hk : k ≤ q.2.2.2.length) => show (L ++ recsTo q q.2.2.1.length ++ kidsG G k).length ≤ 390 by
    have := kidsG_mono G hk
    rw [List.length_append, List.length_append, recsTo_len]
    omega)
  have hLg := Lib.hid (fun k (hk : k < q.2.2.2.length) => show (L ++ recsTo q q.2.2.1.length ++ kidsG G k).length + (G k).length ≤ 390 by
    have := kidsG_mono G (show k + 1 ≤ q.2.2.2.length by omega)
    rw [kidsG_succ, List.length_append] at this
    rw [List.length_append, List.length_append, recsTo_len]
    omega)
  have PRN := Lib.hid PR
  have LRN := Lib.hid LR
  have hsN := Lib.hid hs
  have EG := eg_visit
  have gp1 : w.cell? ⟨g, 1, none⟩ = some (.slice A1 q.2.1.length c1) := kg.cell 1
  clear hlen hp hkids hpb PR LR hs hrep
  go_enter Tryz.func96, Tryz.ntmps96
  go_wp2_with fail
  clear gp1
  go_loopw [15] (fun i wr => ∃ k : Nat, k ≤ q.2.1.length ∧ i = .int .i64 k ∧ Hid (ListR wr b lo (L ++ recsL q k)) ∧ Hid (LW b lo w wr)) (fun i _ => q.2.1.length - (intOf i).toNat)
  case atStart => exact ⟨0, Nat.zero_le _, rfl, by simpa [recsL, recsTo] using LRN, Lib.hid (LW.refl _ _ _)⟩
  case round =>
    obtain ⟨k, hk, rfl, HL, HW⟩ := hrel
    have kgr := HW.out.bk kg (by omega) (by omega)
    have keep : Keeps 0 hi w wr := fun y _ h2 => HW.out.block y (by omega) (by omega)
    have gp0 : wr.cell? ⟨g, 0, none⟩ = some (.bool q.1) := kgr.cell 0
    have gp2 : wr.cell? ⟨g, 2, none⟩ = some (.slice A2 q.2.2.1.length c2) := kgr.cell 2
    have gp3 : wr.cell? ⟨g, 3, none⟩ = some (.slice A3 q.2.2.2.length c3) := kgr.cell 3
    by_cases hlt : k < q.2.1.length
    · obtain ⟨ga, oa, hAa, _, _, hck, hsk⟩ := (SR.keep good_S b1 keep).at_S hlt
      subst hAa
      cases hl : q.1
      · rw [hl] at gp0
        have HN : Hid (ListR wr b lo (L ++ recsL q (k + 1))) := Lib.hid (by
          have h := HL.out
          unfold recsL at h ⊢
          rw [if_neg (by rw [hl]; decide)] at h ⊢
          exact h)
        clear hl keep
        go_wp2_with fail
        go_roundw
        case rel => exact ⟨k + 1, by omega, by go_num, HN, HW⟩
        case measure => simp [intOf]; omega
      · rw [hl] at gp0
        have hvk : k < q.2.2.1.length := by rw [HVK.out hl]; exact hlt
        obtain ⟨gc, oc, hAc, _, _, hcv, hsv⟩ := (SR.keep good_S b2 keep).at_S hvk
        subst hAc
        have hki : (k : Int) < (q.2.2.1.length : Int) := by omega
        have hrl : (L ++ recsL q k).length ≤ 1000 := by
          unfold recsL
          rw [if_pos hl, List.length_append, recsTo_len]
          omega
        have CV := Lib.hid (c_visit b lo (L ++ recsL q k) q.2.1[k] q.2.2.1[k] wr (by unfold maxLen; omega) (by unfold maxLen; omega) HL.out hrl)
        have HX := Lib.hid (show L ++ recsL q (k + 1) = L ++ recsL q k ++ [(q.2.1[k], q.2.2.1[k])] by
          unfold recsL
          rw [if_pos hl, if_pos hl, recsTo_succ, getD_inW hlt, getD_inW hvk, List.append_assoc])
        clear hl keep hrl
        go_wp2_with fail
        refine CV.out.mono ?_
        rintro e w5 ⟨rfl, l5, v5⟩
        rw [← HX.out] at l5
        have HN5 := Lib.hid l5
        have HW5 := Lib.hid (HW.out.trans v5)
        clear l5 v5
        go_wp2_with fail
        go_roundw
        case rel => exact ⟨k + 1, by omega, by go_num, HN5, HW5⟩
        case measure => simp [intOf]; omega
    · obtain rfl : k = q.2.1.length := by omega
      rw [HEND.out] at HL
      clear hlt keep gp0 gp2
      go_wp2_with fail
      clear gp3
      go_loopw [41] (fun i wk => ∃ k : Nat, k ≤ q.2.2.2.length ∧ i = .int .i64 k ∧ Hid (ListR wk b lo (L ++ recsTo q q.2.2.1.length ++ kidsG G k)) ∧ Hid (LW b lo w wk)) (fun i _ => q.2.2.2.length - (intOf i).toNat)
      case atStart => exact ⟨0, Nat.zero_le _, rfl, by simpa [kidsG] using HL, HW⟩
      case round =>
        clear HL HW kgr
        rename_i wr0
        obtain ⟨k, hk, rfl, HL, HW⟩ := hrel
        have keep : Keeps 0 hi w wr := fun y _ h2 => HW.out.block y (by omega) (by omega)
        by_cases hlt : k < q.2.2.2.length
        · obtain ⟨ga, oa, hAa, _, _, hck, hik⟩ := (SR.keep good_I b3 keep).at_I hlt
          subst hAa
          have hkl6 := HKL.out
          have hst := HKS.out k hlt
          obtain ⟨p2, hp2⟩ : ∃ p2, pgAt x q.2.2.2[k] = some p2 := by
            cases n with
            | zero => exact hst.elim
            | succ m => obtain ⟨p2, hp2, _⟩ := hst; exact ⟨p2, hp2⟩
          have PRr := PRN.out.same (w' := wr) (fun y h2 => HW.out.block y (by omega) (by omega))
          have PRrN := Lib.hid PRr
          obtain ⟨pb, n0, f, q1, q2, q3, q4, q5, q6, q7, q8⟩ := PRr
          obtain ⟨g2, cs2, hf2, _, hg2h, kg2, hr2⟩ := (q8 q.2.2.2[k]).2 p2 hp2
          have hlk := q2.look (t := 154) (e := 158) Tryz.underlying2 Tryz.underlying154 (zero_pagepRw _) (i := q.2.2.2[k]) (HKR.out k hlt)
          rw [hf2] at hlk
          simp only [ptrOf] at hlk
          have gt1 : wr.cell? ⟨tb, 1, none⟩ = some (.map (some pb)) := q1.cell 1
          have hgl := hLg.out k hlt
          rw [HGf.out k, getD_inW hlt] at hgl
          have CALL := Lib.hid (IH q.2.2.2[k] g2 p2 (L ++ recsTo q q.2.2.1.length ++ kidsG G k) wr hp2 hst hgl PRrN.out hhb HL.out ⟨cs2, kg2, hg2h, good_Page.wide hr2 (Nat.zero_le _) (Nat.le_refl _)⟩)
          have HX := Lib.hid (show L ++ recsTo q q.2.2.1.length ++ kidsG G (k + 1) = L ++ recsTo q q.2.2.1.length ++ kidsG G k ++ gatherB x n q.2.2.2[k] by
            rw [kidsG_succ, HGf.out k, getD_inW hlt]
            simp only [List.append_assoc])
          clear q8 q2 q3 q4 q5 q6 q7 hp2 hst hf2 kg2 hr2 hgl keep
          go_wp2_with fail
          refine CALL.out.mono ?_
          rintro e w5 ⟨rfl, l5, v5⟩
          rw [← HX.out] at l5
          have HN5 := Lib.hid l5
          have HW5 := Lib.hid (HW.out.trans v5)
          clear l5 v5
          go_wp2_with fail
          go_roundw
          case rel => exact ⟨k + 1, by omega, by go_num, HN5, HW5⟩
          case measure => simp [intOf]; omega
        · obtain rfl : k = q.2.2.2.length := by omega
          clear hlt keep
          go_wp2_with fail
          refine bodyPost_end (v := .tuple #[]) (by simp [results, Tryz.results96, go_sem]) (by rfl) ?_
          refine ⟨rfl, ?_, HW.out⟩
          rw [← List.append_assoc]
          exact HL.out
theorem c_records {x : TBtree} (hs : SlotsP x.2) {lo' hi tb b lo : Nat} : ∀ n, RecN x lo' hi tb b lo n
  | 0 => fun id g p L w _ hst _ _ _ _ _ => hst.elim
  | n + 1 => records_in hs (c_records hs n)
end Go.Proofs.YtpjcgglhlmifdaaGreatDoor

namespace Go.Proofs.YtpjcgglhlmifdaaGreatDoor
open Go.RowKit
set_option linter.unusedVariables false
set_option linter.unusedSimpArgs false

set_option maxRecDepth 100000 in
set_option maxHeartbeats 8000000 in
theorem c_all {x : TBtree} (hb : btreeB x = true) (hr : I64 x.1) {lo' hi tb : Nat} {w : World} (PR : PagesR w lo' hi tb x) (hhi : hi ≤ w.heap.size) :
    Calls Tryz.prog 53 #[.pointer (some ⟨tb, 0, none⟩)] w (ToL shRecord (gatherB x 64 x.1) w) := by
  have hs := slots_of_btree hb
  have hst := stands_root hb
  have h384 := gather_root hb
  have uu : Up w ((w.alloc (.cells #[] 101)).alloc (.cells #[.slice (some ⟨w.heap.size, 0, none⟩) 0 0] 26)) := ((Up.refl _).alloc _).alloc _
  have kl : Bk ((w.alloc (.cells #[] 101)).alloc (.cells #[.slice (some ⟨w.heap.size, 0, none⟩) 0 0] 26)) (w.heap.size + 1) 26 #[.slice (some ⟨w.heap.size, 0, none⟩) 0 0] := by
    simpa using Bk.new (w.alloc (.cells #[] 101)) 26 #[.slice (some ⟨w.heap.size, 0, none⟩) 0 0]
  have zz : ((w.alloc (.cells #[] 101)).alloc (.cells #[.slice (some ⟨w.heap.size, 0, none⟩) 0 0] 26)).heap.size = w.heap.size + 2 := by simp
  obtain ⟨pr, hpr⟩ : ∃ pr, pgAt x x.1 = some pr := by
    have h := hst
    obtain ⟨pr, hpr, _⟩ := h
    exact ⟨pr, hpr⟩
  have EG := eg_visit
  obtain ⟨L, hLe⟩ : ∃ L, L = gatherB x 64 x.1 := ⟨_, rfl⟩
  rw [← hLe]
  have HLE := Lib.hid hLe
  clear hLe
  go_enter Tryz.func53, Tryz.ntmps53
  go_wp2_with fail
  generalize ((w.alloc (.cells #[] 101)).alloc (.cells #[.slice (some ⟨w.heap.size, 0, none⟩) 0 0] 26)) = W0 at uu kl zz ⊢
  have PR0 := (PR.up uu hhi)
  have PRN : Hid (PagesR W0.drew lo' hi tb x) := Lib.hid (PR0.up (Up.refl W0).drew (by omega))
  obtain ⟨pb, n0, f, p1, p2, p3, p4, p5, p6, p7, p8⟩ := PR0
  obtain ⟨gr, csr, hfr, _, hgrh, kgr, hrr⟩ := (p8 x.1).2 pr hpr
  have hlk := (show PMap Tryz.prog 2 W0.drew pb n0 f from p2).look (t := 154) (e := 158) Tryz.underlying2 Tryz.underlying154 (zero_pagepRw _) (i := x.1) hr
  rw [hfr] at hlk
  simp only [ptrOf] at hlk
  have gt0 : W0.drew.cell? ⟨tb, 0, none⟩ = some (.int .i64 x.1) := p1.cell 0
  have gt1 : W0.drew.cell? ⟨tb, 1, none⟩ = some (.map (some pb)) := p1.cell 1
  have LR : ListR W0.drew (w.heap.size + 1) (w.heap.size + 2) [] := ⟨some ⟨w.heap.size, 0, none⟩, 0, [], kl, ⟨Nat.le_refl _, Nat.zero_le _, .inl ⟨rfl, rfl, rfl⟩⟩, List.nodup_nil, by omega, by show _ ≤ W0.heap.size; omega⟩
  have CALL := Lib.hid (c_records hs 64 x.1 gr pr [] W0.drew hpr hst (by simpa using (by omega : (gatherB x 64 x.1).length ≤ 390)) PRN.out (by omega) LR ⟨csr, kgr, hgrh, good_Page.wide hrr (Nat.zero_le _) (Nat.le_refl _)⟩)
  rw [List.nil_append, ← HLE.out] at CALL
  clear p8 p1 p2 p3 p4 p5 p6 p7 hpr hfr kgr hrr LR hs hst h384 PR hb
  go_region_with (go_at_call 96; refine CALL.out.mono ?_; rintro e w5 ⟨rfl, ⟨D, d, bl, k5, so5, nd5, hb5, hlo5⟩, v5⟩; have g5 : w5.cell? ⟨w.heap.size + 1, 0, none⟩ = some (.slice D L.length d) := k5.cell 0)
  all_goals (go_wp2_with fail)
  all_goals (refine bodyPost_ret (v := .slice D L.length d) (by simp [results, Tryz.results53, go_sem]) rfl ?_)
  all_goals (exact ⟨D, d, bl, rfl, so5.wide good_Record (lo' := w.heap.size) (by omega) (Nat.le_refl _), nd5, ⟨v5.os.trans uu.os, v5.tape.trans uu.tape, v5.output.trans uu.output, Nat.le_trans uu.size v5.size, fun i hi => (v5.block i (by omega) (by omega)).trans (uu.block i hi)⟩⟩)
set_option maxRecDepth 100000 in
set_option maxHeartbeats 8000000 in
theorem ci_BtRecords (v : Value) (y : TBtree) (w : World) (h : AV shBtree w v y) (hn : shBtree.sz y ≤ 1048576) (htab : Tab w) (hm : MaxL w) : Calls Tryz.prog 13 #[v] w (ToL shRecord (recordsB y) w) := by
  have hv := h
  obtain ⟨cs, rfl, h⟩ := h
  obtain ⟨r, x⟩ := y
  have ho := openBtree h
  dsimp only at ho
  obtain ⟨A0, c0, rfl, br, b00⟩ := ho
  clear h
  have kT := Bk.new w 30 #[.int .i64 r, .slice A0 x.length c0]
  have uu : Up w (w.alloc (.cells #[.int .i64 r, .slice A0 x.length c0] 30)) := (Up.refl w).alloc _
  have CB := Lib.hid (ci_BtreeOk _ (r, x) _ (hv.up good_Btree uu) hn (tab_up htab uu) (maxL_up hm uu))
  have g0 : World.cell? _ ⟨w.heap.size, 0, none⟩ = some (.int .i64 r) := kT.cell 0
  have g1 : World.cell? _ ⟨w.heap.size, 1, none⟩ = some (.slice A0 x.length c0) := kT.cell 1
  have HE0 := Lib.hid (fun (hb : btreeB (r, x) = false) => show recordsB (r, x) = [] by unfold recordsB; rw [if_neg (by rw [hb]; decide)])
  have HE1 := Lib.hid (fun (hb : btreeB (r, x) = true) => show recordsB (r, x) = gatherB (r, x) 64 r by unfold recordsB; rw [if_pos hb])
  generalize recordsB (r, x) = L at HE0 HE1 ⊢
  go_enter Tryz.func13, Tryz.ntmps13
  go_wp2_with fail
  refine CB.out.mono ?_
  rintro e w1 ⟨rfl, u1⟩
  cases hb : btreeB (r, x)
  · have HE := Lib.hid (HE0.out hb)
    clear hb CB g0 g1 HE0 HE1
    go_wp2_with fail
    refine bodyPost_ret (v := .slice none 0 0) (by simp [results, Tryz.results13, go_sem]) rfl ?_
    have hL := HE.out
    subst hL
    exact ⟨none, 0, [], rfl, SO.nil _ _ _, List.nodup_nil, uu.trans u1⟩
  · have HE := Lib.hid (HE1.out hb)
    have CPG := Lib.hid (c_pagesOf _ (r, x) w1 (hv.up good_Btree (uu.trans u1)) (slots_of_btree hb) hn)
    have g0' : w1.cell? ⟨w.heap.size, 0, none⟩ = some (.int .i64 r) := (u1.cell (cell_lt g0)).trans g0
    have g1' : w1.cell? ⟨w.heap.size, 1, none⟩ = some (.slice A0 x.length c0) := (u1.cell (cell_lt g1)).trans g1
    have HA := Lib.hid (fun lo' hi tb W PR hhi => c_all (x := (r, x)) hb br (lo' := lo') (hi := hi) (tb := tb) (w := W) PR hhi)
    clear hb CB g0 g1 HE0 HE1
    go_wp2_with fail
    refine CPG.out.mono ?_
    rintro e w2 ⟨tb, rfl, PR, u2⟩
    have CA := Lib.hid (HA.out _ _ _ _ PR (Nat.le_refl _))
    have CA' : Hid (Calls Tryz.prog 53 #[.pointer (some ⟨tb, 0, none⟩)] w2 (ToL shRecord L w2)) := Lib.hid (by rw [HE.out]; exact CA.out)
    clear CA
    clear CPG PR HA
    go_wp2_with fail
    refine CA'.out.mono ?_
    rintro e w3 ⟨A, c, bl3, rfl, so3, nd3, u3⟩
    have zz3 := ((uu.trans u1).trans u2).size
    go_wp2_with fail
    refine bodyPost_ret (v := .slice A L.length c) (by simp [results, Tryz.results13, go_sem]) rfl ?_
    exact ⟨A, c, bl3, rfl, so3.wide good_Record (lo' := w.heap.size) zz3 (Nat.le_refl _), nd3, ((uu.trans u1).trans u2).trans u3⟩
end Go.Proofs.YtpjcgglhlmifdaaGreatDoor

namespace Go.Proofs.YtpjcgglhlmifdaaGreatDoor
open Go.RowKit
set_option linter.unusedVariables false
set_option linter.unusedSimpArgs false

end Go.Proofs.YtpjcgglhlmifdaaGreatDoor

namespace Go.Proofs.YtpjcgglhlmifdaaGreatDoor
open Go.RowKit
set_option linter.unusedVariables false
set_option linter.unusedSimpArgs false

set_option maxRecDepth 100000 in
set_option maxHeartbeats 8000000 in
theorem cs0_BtRecords (v : Value) (y : TBtree) (w : World) (h : AV shBtree w v y) (hn : shBtree.sz y ≤ 1048576) : Calls Tryz.prog 11 #[v] w (ToL shRecord (recordsB y) w) := by
  have hv := h
  obtain ⟨cs, rfl, h⟩ := h
  obtain ⟨r, x⟩ := y
  have ho := openBtree h
  dsimp only at ho
  obtain ⟨A0, c0, rfl, br, b00⟩ := ho
  clear h
  have kT := Bk.new w 30 #[.int .i64 r, .slice A0 x.length c0]
  have uu : Up w (w.alloc (.cells #[.int .i64 r, .slice A0 x.length c0] 30)) := (Up.refl w).alloc _
  have CB := Lib.hid (cs_BtreeOk _ (r, x) _ (hv.up good_Btree uu) hn)
  have g0 : World.cell? _ ⟨w.heap.size, 0, none⟩ = some (.int .i64 r) := kT.cell 0
  have g1 : World.cell? _ ⟨w.heap.size, 1, none⟩ = some (.slice A0 x.length c0) := kT.cell 1
  have HE0 := Lib.hid (fun (hb : btreeB (r, x) = false) => show recordsB (r, x) = [] by unfold recordsB; rw [if_neg (by rw [hb]; decide)])
  have HE1 := Lib.hid (fun (hb : btreeB (r, x) = true) => show recordsB (r, x) = gatherB (r, x) 64 r by unfold recordsB; rw [if_pos hb])
  generalize recordsB (r, x) = L at HE0 HE1 ⊢
  go_enter Tryz.func11, Tryz.ntmps11
  go_wp2_with fail
  refine CB.out.mono ?_
  rintro e w1 ⟨rfl, u1⟩
  have U1 := uu.trans u1
  have kT1 := kT.up u1
  cases hb : btreeB (r, x)
  · have HE := Lib.hid (HE0.out hb)
    clear hb CB g0 g1 HE0 HE1
    go_wp2_with fail
    refine bodyPost_ret (v := .slice (some ⟨w1.heap.size, 0, none⟩) 0 0) (by simp [results, Tryz.results11, go_sem]) rfl ?_
    have hL := HE.out
    subst hL
    exact ⟨_, 0, [], rfl, ⟨Nat.le_refl _, Nat.zero_le _, .inl ⟨rfl, rfl, rfl⟩⟩, List.nodup_nil, U1.alloc _⟩
  · have hs := slots_of_btree hb
    have CG := Lib.hid (c_gather hs 64 r w1 w.heap.size U1.size (mkBtree (x := (r, x)) br (SR.keep good_Slot b00 (U1.keeps (Nat.le_refl _)))) (stands_root hb) (gather_root hb) br)
    have HE := Lib.hid (HE1.out hb)
    rw [← HE.out] at CG
    have g0' : w1.cell? ⟨w.heap.size, 0, none⟩ = some (.int .i64 r) := kT1.cell 0
    have g1' : w1.cell? ⟨w.heap.size, 1, none⟩ = some (.slice A0 x.length c0) := kT1.cell 1
    have z1 := U1.size
    clear hb CB g0 g1 hs HE0 HE1
    go_wp2_with fail
    refine CG.out.mono ?_
    rintro e w2 ⟨D, d, bl, rfl, so, nd, u2⟩
    go_wp2_with fail
    refine bodyPost_ret (v := .slice D L.length d) (by simp [results, Tryz.results11, go_sem]) rfl ?_
    exact ⟨D, d, bl, rfl, so.wide good_Record (lo' := w.heap.size) z1 (Nat.le_refl _), nd, U1.trans u2⟩
end Go.Proofs.YtpjcgglhlmifdaaGreatDoor

namespace Go.Proofs.YtpjcgglhlmifdaaGreatDoor
open Go.RowKit
set_option linter.unusedSimpArgs false
set_option linter.unusedVariables false

set_option maxHeartbeats 1000000 in
theorem c_eqRecord (v u : Value) (x y : TRecord) (w : World) (h : AV shRecord w v x) (k : AV shRecord w u y) :
    Calls Tryz.prog 54 #[v, u] w (EqP (x = y) w) := by
  obtain ⟨cs, rfl, h⟩ := h
  obtain ⟨x0, x1⟩ := x
  have ho := openRecord h
  try dsimp only at ho
  obtain ⟨rfl, b0, b1⟩ := ho
  obtain ⟨ds, rfl, k⟩ := k
  obtain ⟨y0, y1⟩ := y
  have ko := openRecord k
  try dsimp only at ko
  obtain ⟨rfl, e0, e1⟩ := ko
  have kx0 : Bk ((w.alloc (.cells #[.string x0, .string x1] 101)).alloc (.cells #[.string y0, .string y1] 101)) w.heap.size 101 #[.string x0, .string x1] := (Bk.new _ _ _).alloc _
  have ky0 : Bk ((w.alloc (.cells #[.string x0, .string x1] 101)).alloc (.cells #[.string y0, .string y1] 101)) (w.heap.size + 1) 101 #[.string y0, .string y1] := by simpa using Bk.new (w.alloc (.cells #[.string x0, .string x1] 101)) 101 #[.string y0, .string y1]
  have uu0 : Up w ((w.alloc (.cells #[.string x0, .string x1] 101)).alloc (.cells #[.string y0, .string y1] 101)) := ((Up.refl _).alloc _).alloc _
  by_cases e_0 : ¬ x0 = y0
  · have hx : (x0.toList == y0.toList) = false := by rw [str_beq]; simp [e_0]
    have HE : Hid (¬ (x0, x1) = (y0, y1)) := by unfold Hid; intro hh; (try simp only [Prod.mk.injEq] at hh); exact e_0 (by simp [hh])
    clear e_0
    go_enter Tryz.func54, Tryz.ntmps54
    go_wp2_with fail
    go_ret
    exact EqP.f HE.out uu0
  replace e_0 := Decidable.of_not_not e_0
  subst e_0
  by_cases e_1 : ¬ x1 = y1
  · have hx : (x1.toList == y1.toList) = false := by rw [str_beq]; simp [e_1]
    have HE : Hid (¬ (x0, x1) = (x0, y1)) := by unfold Hid; intro hh; (try simp only [Prod.mk.injEq] at hh); exact e_1 (by simp [hh])
    clear e_1
    go_enter Tryz.func54, Tryz.ntmps54
    go_wp2_with fail
    go_ret
    exact EqP.f HE.out uu0
  replace e_1 := Decidable.of_not_not e_1
  subst e_1
  go_enter Tryz.func54, Tryz.ntmps54
  go_wp2_with fail
  go_ret
  exact EqP.t (by simp) uu0

set_option maxRecDepth 100000 in
set_option maxHeartbeats 1000000 in
theorem c_eqRecordS (xs ys : List TRecord) (A B : Option Addr) (c d : Nat) (w : World) (h : SRW shRecord w A c xs) (k : SRW shRecord w B d ys) :
    Calls Tryz.prog 14 #[.slice A xs.length c, .slice B ys.length d] w (EqP (xs = ys) w) := by
  have hlen := h.len_le
  have klen := k.len_le
  by_cases hl : xs.length = ys.length
  · have hb : ((xs.length : Int) != (ys.length : Int)) = false := by simp [hl]
    have HL := Lib.hid hl; clear hl
    go_enter Tryz.func14, Tryz.ntmps14
    go_wp2
    go_loopw [5] (fun i wr => ∃ k : Nat, k ≤ xs.length ∧ i = .int .i64 k ∧ Hid (xs.take k = ys.take k) ∧ Up w wr) (fun i _ => xs.length - (intOf i).toNat)
    case atStart => exact ⟨0, Nat.zero_le _, rfl, rfl, Up.refl _⟩
    case round =>
      obtain ⟨j, hj, rfl, HT, hu⟩ := hrel
      by_cases hlt : j < xs.length
      · have hlt' : j < ys.length := by rw [← HL.out]; exact hlt
        obtain ⟨g, off, rfl, _, _, hc0, hc1, b0, b1, _⟩ := atRecord (h.up good_Record hu) hlt
        obtain ⟨g', off', rfl, _, _, hd0, hd1, f0, f1, _⟩ := atRecord (k.up good_Record hu) hlt'
        go_wp2_with fail
        go_still_tail 8, (by kernel_rfl)
        change wpList _ _ _ _ _ wr.drew
        go_wp2_with fail
        refine (c_eqRecord _ _ xs[j] ys[j] _ (AV.up good_Record ⟨_, rfl, mkRecord (x := xs[j]) b0 b1⟩ ((Up.refl wr).drew)) (AV.up good_Record ⟨_, rfl, mkRecord (x := ys[j]) f0 f1⟩ ((Up.refl wr).drew))).mono ?_
        rintro e w1 ⟨bb, rfl, hbb, hu1⟩
        rcases (eqb_cases hbb).symm with ⟨rfl, he⟩ | ⟨rfl, he⟩
        · clear hbb
          have HE := Lib.hid he; clear he
          go_wp2_with fail
          go_roundw
          case rel => exact ⟨j + 1, by omega, by go_num, take_snoc_eq HT.out hlt hlt' HE.out, hu.drew.trans hu1⟩
          case measure => simp [intOf]; omega
        · clear hbb
          have HE := Lib.hid (ne_of_at hlt hlt' he); clear he
          go_wp2_with fail
          go_ret
          exact EqP.f HE.out (hu.drew.trans hu1)
      · have HE := Lib.hid (take_all_eq HT.out (by omega) (by rw [← HL.out]; omega))
        go_wp2
        go_ret
        exact EqP.t HE.out hu
  · have hb : ((xs.length : Int) != (ys.length : Int)) = true := by rw [bne_iff_ne]; omega
    have HE := Lib.hid (ne_of_len hl); clear hl
    go_enter Tryz.func14, Tryz.ntmps14
    go_wp2
    go_ret
    exact EqP.f HE.out (Up.refl _)

def mmRecord : Mk TRecord := (mkP mkS mkS)
theorem gm_Record : GoodM mmRecord := (gm_P gm_S gm_S)
set_option maxRecDepth 100000 in
set_option maxHeartbeats 4000000 in
theorem c_markRecordS (xs : List TRecord) (A : Option Addr) (c : Nat) (k : Int) (lo hi : Nat) (bl : List Nat) (w : World) (h : SO shRecord w lo hi A c xs bl) (hhi : hi ≤ w.heap.size) (hnd : bl.Nodup) (hk0 : 0 < k) (hk1 : k + ((mkL mmRecord).cnt xs : Nat) ≤ 1000000000) :
    Calls Tryz.prog 17 #[.slice A xs.length c, .int .i64 k] w (MarkL shRecord mmRecord lo hi A c xs k bl w) := by
  have hlen : xs.length ≤ 9223372036854775807 := (h.rep good_Record).len_le
  have hk2 : k + ((xs.map (mmRecord).cnt).sum : Nat) ≤ 1000000000 := hk1
  clear hk1
  go_enter Tryz.func17, Tryz.ntmps17
  go_wp2_with fail
  go_loopw [1, 5] (fun a b wr => ∃ (i : Nat) (K : Int), i ≤ xs.length ∧ a = .int .i64 K ∧ b = .int .i64 i ∧ Hid (K = k + psum (mmRecord).cnt xs i) ∧ 0 < K ∧ K ≤ 1000000000 ∧ SO shRecord wr lo hi A c (pm mmRecord xs k i) bl ∧ Only bl w wr) (fun _ b _ => xs.length - (intOf b).toNat)
  case atStart => exact ⟨0, k, Nat.zero_le _, rfl, rfl, by unfold Hid; rw [psum_zero]; simp, hk0, by omega, by rw [pm_zero]; exact h, Only.refl _ _⟩
  case round =>
    obtain ⟨i, K, hii, rfl, rfl, HK, hK0, hK1, hS, hO⟩ := hrel
    by_cases hlt : i < xs.length
    · have hps := psum_le (mmRecord).cnt xs (i + 1)
      rw [psum_succ (mmRecord).cnt xs i hlt] at hps
      have hKb : K + ((mmRecord).cnt xs[i] : Nat) ≤ 1000000000 := by rw [HK.out]; omega
      have HK2 : Hid (K + ((mmRecord).cnt xs[i] : Nat) = k + psum (mmRecord).cnt xs (i + 1)) := by unfold Hid; rw [HK.out, psum_succ (mmRecord).cnt xs i hlt]; omega
      have hhi2 : hi ≤ wr.heap.size := Nat.le_trans hhi hO.size
      obtain ⟨g, off, C, tid, b, cs, rfl, hg1, hg2, hbk, hcl, hcells, ho, hgm, hgb, hbn, hbm, hput⟩ := hS.focus good_Record hnd (pm_at mmRecord xs k i hlt)
      clear hcl hps
      have hKc : K + ((1 + (1) : Nat) : Int) ≤ 1000000000 := hKb
      obtain ⟨rfl, hbe, f0, f1⟩ := openORecord ho
      have e0 : C[off + i * 2]? = some (.string xs[i].1) := hcells 0 (by decide)
      have e1 : C[off + i * 2 + 1]? = some (.string xs[i].2) := hcells 1 (by decide)
      have c0_0 : wr.cell? ⟨g, off + i * 2, none⟩ = some (.string xs[i].1) := by rw [hbk.cell]; exact e0
      have z0_0 : wr.frozen? ⟨g, off + i * 2, none⟩ = false := hbk.frozen _
      have c0_1 : wr.cell? ⟨g, off + i * 2 + 1, none⟩ = some (.string xs[i].2) := by rw [hbk.cell]; exact e1
      have z0_1 : wr.frozen? ⟨g, off + i * 2 + 1, none⟩ = false := hbk.frozen _
      go_wp2_with fail
      refine (c_markText _ _ (by omega) (by omega)).mono ?_
      rintro e w1 ⟨rfl, u1⟩
      have kb1 := hbk.up u1
      have on1 := hO.up u1
      have sz1 : hi ≤ w1.heap.size := Nat.le_trans hhi on1.size
      have re1 : ∀ y, y < hi → y ≠ g → y ∉ b → w1.heap[y]? = wr.heap[y]? := fun y hy hyg hyb => (u1.block y (Nat.lt_of_lt_of_le hy (Nat.le_trans hhi hO.size)))
      have c1_0 : w1.cell? ⟨g, off + i * 2, none⟩ = some (.string xs[i].1) := by rw [kb1.cell]; exact e0
      have z1_0 : w1.frozen? ⟨g, off + i * 2, none⟩ = false := kb1.frozen _
      have c1_1 : w1.cell? ⟨g, off + i * 2 + 1, none⟩ = some (.string xs[i].2) := by rw [kb1.cell]; exact e1
      have z1_1 : w1.frozen? ⟨g, off + i * 2 + 1, none⟩ = false := kb1.frozen _
      clear u1
      go_wp2_with fail
      have kb2 : Bk (w1.setCell ⟨g, off + i * 2, none⟩ (.string (mtext K))) g tid (C.setIfInBounds (off + i * 2) (.string (mtext K))) := (kb1.set (off + i * 2) (.string (mtext K)))
      have on2 : Only bl w (w1.setCell ⟨g, off + i * 2, none⟩ (.string (mtext K))) := (on1.but (But.set _ g (off + i * 2) (.string (mtext K))) hgm)
      have bu2 : But g w1 (w1.setCell ⟨g, off + i * 2, none⟩ (.string (mtext K))) := But.set _ g (off + i * 2) (.string (mtext K))
      have re2 : ∀ y, y < hi → y ≠ g → y ∉ b → (w1.setCell ⟨g, off + i * 2, none⟩ (.string (mtext K))).heap[y]? = wr.heap[y]? := fun y hy hyg hyb => (bu2.block y hyg).trans (re1 y hy hyg hyb)
      refine (c_markText _ _ (by omega) (by omega)).mono ?_
      rintro e w3 ⟨rfl, u3⟩
      have kb3 := kb2.up u3
      have on3 := on2.up u3
      have sz3 : hi ≤ w3.heap.size := Nat.le_trans hhi on3.size
      have re3 : ∀ y, y < hi → y ≠ g → y ∉ b → w3.heap[y]? = wr.heap[y]? := fun y hy hyg hyb => (u3.block y (Nat.lt_of_lt_of_le hy (Nat.le_trans hhi on2.size))).trans (re2 y hy hyg hyb)
      have c3_0 : w3.cell? ⟨g, off + i * 2, none⟩ = some (.string (mtext K)) := by rw [kb3.cell]; exact set_same rfl e0
      have z3_0 : w3.frozen? ⟨g, off + i * 2, none⟩ = false := kb3.frozen _
      have c3_1 : w3.cell? ⟨g, off + i * 2 + 1, none⟩ = some (.string xs[i].2) := by rw [kb3.cell]; rw [set_ne (by omega)]; exact e1
      have z3_1 : w3.frozen? ⟨g, off + i * 2 + 1, none⟩ = false := kb3.frozen _
      clear u3
      go_wp2_with fail
      have kb4 : Bk (w3.setCell ⟨g, off + i * 2 + 1, none⟩ (.string (mtext (K + 1)))) g tid ((C.setIfInBounds (off + i * 2) (.string (mtext K))).setIfInBounds (off + i * 2 + 1) (.string (mtext (K + 1)))) := (kb3.set (off + i * 2 + 1) (.string (mtext (K + 1))))
      have on4 : Only bl w (w3.setCell ⟨g, off + i * 2 + 1, none⟩ (.string (mtext (K + 1)))) := (on3.but (But.set _ g (off + i * 2 + 1) (.string (mtext (K + 1)))) hgm)
      have bu4 : But g w3 (w3.setCell ⟨g, off + i * 2 + 1, none⟩ (.string (mtext (K + 1)))) := But.set _ g (off + i * 2 + 1) (.string (mtext (K + 1)))
      have re4 : ∀ y, y < hi → y ≠ g → y ∉ b → (w3.setCell ⟨g, off + i * 2 + 1, none⟩ (.string (mtext (K + 1)))).heap[y]? = wr.heap[y]? := fun y hy hyg hyb => (bu4.block y hyg).trans (re3 y hy hyg hyb)
      have hxm : (mmRecord).mark xs[i] K = ((mtext (K)), (mtext (K + 1))) := rfl
      have hown : shRecord.own (w3.setCell ⟨g, off + i * 2 + 1, none⟩ (.string (mtext (K + 1)))) lo hi [.string (mtext K), .string (mtext (K + 1))] ((mtext (K)), (mtext (K + 1))) b := by rw [hbe]; exact mkORecord (x := ((mtext (K)), (mtext (K + 1)))) (mtext_le (by omega)) (mtext_le (by omega))
      have hcell : ∀ j, j < shRecord.size → ((C.setIfInBounds (off + i * 2) (.string (mtext K))).setIfInBounds (off + i * 2 + 1) (.string (mtext (K + 1))))[off + (i * shRecord.size + j)]? = [.string (mtext K), .string (mtext (K + 1))][j]? := by
        intro j hj
        have hj' : j < 2 := hj
        by_cases hj0 : j = 0
        · subst hj0
          show ((C.setIfInBounds (off + i * 2) (.string (mtext K))).setIfInBounds (off + i * 2 + 1) (.string (mtext (K + 1))))[off + (i * 2 + 0)]? = some _
          rw [show off + (i * 2 + 0) = off + i * 2 by omega]
          rw [set_ne (by omega)]; exact set_same rfl e0
        by_cases hj1 : j = 1
        · subst hj1
          show ((C.setIfInBounds (off + i * 2) (.string (mtext K))).setIfInBounds (off + i * 2 + 1) (.string (mtext (K + 1))))[off + (i * 2 + 1)]? = some _
          rw [show off + (i * 2 + 1) = off + i * 2 + 1 by omega]
          exact set_same rfl (by rw [set_ne (by omega)]; exact e1)
        omega
      have hfar : ∀ p, (p < off + i * shRecord.size ∨ off + i * shRecord.size + shRecord.size ≤ p) → ((C.setIfInBounds (off + i * 2) (.string (mtext K))).setIfInBounds (off + i * 2 + 1) (.string (mtext (K + 1))))[p]? = C[p]? := by
        intro p hp
        have hp' : p < off + i * 2 ∨ off + i * 2 + 2 ≤ p := hp
        rw [set_ne (by omega)]; rw [set_ne (by omega)]
      have hS2 := hput _ _ _ _ kb4 hcell hfar hown (fun y hy hyg hyb => re4 y (hS.in_ good_Record y hy).2 hyg hyb)
      have hpm : (pm mmRecord xs k i).set i ((mtext (K)), (mtext (K + 1))) = pm mmRecord xs k (i + 1) := by rw [← hxm, HK.out]; exact pm_succ mmRecord xs k i hlt
      rw [hpm] at hS2
      clear hpm hxm
      have hcn : ((mmRecord).cnt xs[i] : Nat) = 1 + (1) := rfl
      have HK3 : Hid (K + 1 + 1 = k + psum (mmRecord).cnt xs (i + 1)) := by unfold Hid; rw [← HK2.out, hcn]; omega
      have hk5 : K + 1 + 1 ≤ 1000000000 := by rw [hcn] at hKb; omega
      clear hcn
      go_roundw
      case rel => exact ⟨i + 1, K + 1 + 1, by omega, rfl, by go_num, HK3, by omega, hk5, hS2, on4⟩
      case measure => simp [intOf]; omega
    · have HE : Hid (K = k + ((mkL mmRecord).cnt xs : Nat)) := by unfold Hid; rw [HK.out]; show _ = k + (((xs.map (mmRecord).cnt).sum : Nat) : Int); rw [← psum_all (mmRecord).cnt xs, show i = xs.length by omega]
      rw [pm_all mmRecord xs k i (by omega)] at hS
      go_wp2_with fail
      go_ret
      exact MarkL.mk HE hS hO

set_option maxRecDepth 100000 in
set_option maxHeartbeats 4000000 in
theorem c_heldRecordS (xs : List TRecord) (A : Option Addr) (c : Nat) (k : Int) (w : World) (h : SRW shRecord w A c xs) (hm : markL mmRecord xs k = xs) (hk0 : 0 < k) (hk1 : k + ((mkL mmRecord).cnt xs : Nat) ≤ 1000000000) :
    Calls Tryz.prog 18 #[.slice A xs.length c, .int .i64 k] w (HeldP (k + ((mkL mmRecord).cnt xs : Nat)) w) := by
  have hlen := h.len_le
  have HM := Lib.hid hm; clear hm
  have hk2 : k + ((xs.map (mmRecord).cnt).sum : Nat) ≤ 1000000000 := hk1
  clear hk1
  go_enter Tryz.func18, Tryz.ntmps18
  go_wp2_with fail
  go_loopw [1, 5] (fun a b wr => ∃ (i : Nat) (K : Int), i ≤ xs.length ∧ a = .int .i64 K ∧ b = .int .i64 i ∧ Hid (K = k + psum (mmRecord).cnt xs i) ∧ 0 < K ∧ K ≤ 1000000000 ∧ Up w wr) (fun _ b _ => xs.length - (intOf b).toNat)
  case atStart => exact ⟨0, k, Nat.zero_le _, rfl, rfl, by unfold Hid; rw [psum_zero]; simp, hk0, by omega, Up.refl _⟩
  case round =>
    obtain ⟨i, K, hii, rfl, rfl, HK, hK0, hK1, hu⟩ := hrel
    by_cases hlt : i < xs.length
    · have hps := psum_le (mmRecord).cnt xs (i + 1)
      rw [psum_succ (mmRecord).cnt xs i hlt] at hps
      have hKb : K + ((mmRecord).cnt xs[i] : Nat) ≤ 1000000000 := by rw [HK.out]; omega
      have HK2 : Hid (K + ((mmRecord).cnt xs[i] : Nat) = k + psum (mmRecord).cnt xs (i + 1)) := by unfold Hid; rw [HK.out, psum_succ (mmRecord).cnt xs i hlt]; omega
      clear hps
      have hmi : (mmRecord).mark xs[i] K = xs[i] := by rw [HK.out]; exact marked_at HM.out hlt
      have hKc : K + ((1 + (1) : Nat) : Int) ≤ 1000000000 := hKb
      have v0 : (mtext (K)) = xs[i].1 := congrArg (fun q : TRecord => q.1) hmi
      have v1 : (mtext (K + 1)) = xs[i].2 := congrArg (fun q : TRecord => q.2) hmi
      clear hmi
      obtain ⟨g, off, rfl, _, _, hc0, hc1, b0, b1, _⟩ := atRecord (h.up good_Record hu) hlt
      rw [← v0] at hc0
      clear v0
      rw [← v1] at hc1
      clear v1
      go_wp2_with fail
      have t0_0 := fun t : UpT wr => cell_up t hc0
      have t0_1 := fun t : UpT wr => cell_up t hc1
      refine wp_region_up (by kernel_rfl) (by kernel_rfl) ?_
      repeat (go_big_quiet_step ((go_at_call 57; exact up_call (c_markText _ _ (by omega) (by omega)) (UpT.up _))))
      refine wpQuiet_nil ?_
      clear t0_0 t0_1
      rintro w1 ⟨⟨_, u1⟩, rfl⟩
      try dsimp only
      have l1 := u1
      have c1_0 : w1.cell? ⟨g, off + i * 2, none⟩ = some (.string (mtext (K))) := (l1.cell (cell_lt hc0)).trans hc0
      have c1_1 : w1.cell? ⟨g, off + i * 2 + 1, none⟩ = some (.string (mtext (K + 1))) := (l1.cell (cell_lt hc1)).trans hc1
      go_wp2_with fail
      have t1_0 := fun t : UpT w1 => cell_up t c1_0
      have t1_1 := fun t : UpT w1 => cell_up t c1_1
      refine wp_region_up (by kernel_rfl) (by kernel_rfl) ?_
      repeat (go_big_quiet_step ((go_at_call 57; exact up_call (c_markText _ _ (by omega) (by omega)) (UpT.up _))))
      refine wpQuiet_nil ?_
      clear t1_0 t1_1
      rintro w2 ⟨⟨_, u2⟩, rfl⟩
      try dsimp only
      have l2 := l1.trans u2
      have c2_0 : w2.cell? ⟨g, off + i * 2, none⟩ = some (.string (mtext (K))) := (l2.cell (cell_lt hc0)).trans hc0
      have c2_1 : w2.cell? ⟨g, off + i * 2 + 1, none⟩ = some (.string (mtext (K + 1))) := (l2.cell (cell_lt hc1)).trans hc1
      go_wp2_with fail
      have hcn : ((mmRecord).cnt xs[i] : Nat) = 1 + (1) := rfl
      have HK3 : Hid (K + 1 + 1 = k + psum (mmRecord).cnt xs (i + 1)) := by unfold Hid; rw [← HK2.out, hcn]; omega
      have hk5 : K + 1 + 1 ≤ 1000000000 := by rw [hcn] at hKb; omega
      clear hcn
      go_roundw
      case rel => exact ⟨i + 1, K + 1 + 1, by omega, rfl, by go_num, HK3, by omega, hk5, hu.trans l2⟩
      case measure => simp [intOf]; omega
    · have HE : Hid (K = k + ((mkL mmRecord).cnt xs : Nat)) := by unfold Hid; rw [HK.out]; show _ = k + (((xs.map (mmRecord).cnt).sum : Nat) : Int); rw [← psum_all (mmRecord).cnt xs, show i = xs.length by omega]
      go_wp2_with fail
      go_ret
      exact HeldP.mk HE hu

end Go.Proofs.YtpjcgglhlmifdaaGreatDoor

namespace Go.Proofs.YtpjcgglhlmifdaaGreatDoor
open Go.RowKit
set_option linter.unusedVariables false
set_option linter.unusedSimpArgs false

theorem cnt_slots (x : List TSlot) : (mkL mmSlot).cnt x ≤ 3 * (shL shSlot).sz x := by
  show (x.map mmSlot.cnt).sum ≤ 3 * (x.length + (x.map shSlot.sz).sum)
  induction x with
  | nil => simp
  | cons n x ih =>
    have h1 : mmSlot.cnt n = 1 + (1 + ((n.2.2.1.map mkS.cnt).sum + ((n.2.2.2.1.map mkS.cnt).sum + (n.2.2.2.2.map mkI.cnt).sum))) := rfl
    have h2 : shSlot.sz n = 0 + (0 + ((n.2.2.1.length + (n.2.2.1.map shS.sz).sum) + ((n.2.2.2.1.length + (n.2.2.2.1.map shS.sz).sum) + (n.2.2.2.2.length + (n.2.2.2.2.map shI.sz).sum)))) := rfl
    have hS : ∀ l : List ByteArray, (l.map mkS.cnt).sum = l.length := fun l => by
      induction l with
      | nil => rfl
      | cons a l ih => simp only [List.map_cons, List.sum_cons, List.length_cons, ih]; show 1 + l.length = _; omega
    have hI : ∀ l : List Int, (l.map mkI.cnt).sum = l.length := fun l => by
      induction l with
      | nil => rfl
      | cons a l ih => simp only [List.map_cons, List.sum_cons, List.length_cons, ih]; show 1 + l.length = _; omega
    have e1 := hS n.2.2.1
    have e2 := hS n.2.2.2.1
    have e3 := hI n.2.2.2.2
    simp only [List.map_cons, List.sum_cons, List.length_cons]
    omega
theorem cnt_Btree (x : TBtree) (hn : shBtree.sz x ≤ 1048576) : mmTBtree.cnt x ≤ 4194304 := by
  have h := cnt_slots x.2
  have e : shBtree.sz x = 0 + (shL shSlot).sz x.2 := rfl
  have e2 : mmTBtree.cnt x = 0 + (mkL mmSlot).cnt x.2 := rfl
  omega
theorem cnt_recs (l : List TRecord) : (mkL mmRecord).cnt l = 2 * l.length := by
  show (l.map mmRecord.cnt).sum = _
  induction l with
  | nil => rfl
  | cons a l ih =>
    have : mmRecord.cnt a = 2 := rfl
    simp only [List.map_cons, List.sum_cons, List.length_cons, ih]
    omega
theorem records_len (x : TBtree) : (recordsB x).length ≤ 384 := by
  unfold recordsB
  split
  · rename_i h; exact gather_root h
  · exact Nat.zero_le _
theorem cbg_BtRecords (x : TBtree) (hn : shBtree.sz x ≤ 1048576) : (1 : Int) + ((mkL mmRecord).cnt (recordsB x) : Nat) ≤ 1000000000 := by
  have h1 := records_len x
  have h2 := cnt_recs (recordsB x)
  omega
theorem cs_BtRecords (v : Value) (y : TBtree) (w : World) (h : AV shBtree w v y) (hn : shBtree.sz y ≤ 1048576) : Calls Tryz.prog 11 #[v] w (RpL shRecord (recordsB y) w) :=
  (cs0_BtRecords v y w h hn).mono fun _ _ hh => ToL.rp good_Record hh
end Go.Proofs.YtpjcgglhlmifdaaGreatDoor
