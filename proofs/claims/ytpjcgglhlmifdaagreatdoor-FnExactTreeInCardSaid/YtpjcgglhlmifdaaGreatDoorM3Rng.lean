/-
  BtAfter: the reference's.
  The records below a page: the program's.
  The records below a page: the program's, one page.
  All records, and BtRecords: the program's.
  BtAfter: the program's.
-/
import Derived.Test.YtpjcgglhlmifdaaGreatDoorM3Rh
import Derived.Test.YtpjcgglhlmifdaaGreatDoorM3Wag
namespace Go.Proofs.YtpjcgglhlmifdaaGreatDoor
open Go.RowKit
set_option linter.unusedVariables false
set_option linter.unusedSimpArgs false

end Go.Proofs.YtpjcgglhlmifdaaGreatDoor

namespace Go.Proofs.YtpjcgglhlmifdaaGreatDoor
open Go.RowKit
set_option linter.unusedVariables false
set_option linter.unusedSimpArgs false

/-- The list in box b, all it owns from lo on. -/
def ListR (w : World) (b lo : Nat) (L : List TRecord) : Prop :=
  ∃ D d bl, Bk w b 26 #[.slice D L.length d] ∧ SO shRecord w lo w.heap.size D d L bl ∧ bl.Nodup ∧ b < lo ∧ lo ≤ w.heap.size
/-- Below lo at most block b has turned. -/
structure LW (b lo : Nat) (w w' : World) : Prop where
  os : w'.os = w.os
  tape : w'.tape = w.tape
  output : w'.output = w.output
  size : w.heap.size ≤ w'.heap.size
  block : ∀ k, k < lo → k ≠ b → w'.heap[k]? = w.heap[k]?
theorem LW.refl (b lo : Nat) (w : World) : LW b lo w w := ⟨rfl, rfl, rfl, Nat.le_refl _, fun _ _ _ => rfl⟩
theorem LW.trans {b lo : Nat} {x y z : World} (h : LW b lo x y) (k : LW b lo y z) : LW b lo x z := ⟨k.os.trans h.os, k.tape.trans h.tape, k.output.trans h.output, Nat.le_trans h.size k.size, fun i h1 h2 => (k.block i h1 h2).trans (h.block i h1 h2)⟩
theorem LW.bk {b lo : Nat} {w w' : World} (h : LW b lo w w') {g : Nat} {t : TypeId} {C : Array Value} (k : Bk w g t C) (hg : g < lo) (hb : g ≠ b) : Bk w' g t C := (h.block g hg hb).trans k
theorem PagesR.same {w w' : World} {lo hi tb : Nat} {x : TBtree} (h : PagesR w lo hi tb x) (u : ∀ k, k < hi → w'.heap[k]? = w.heap[k]?) : PagesR w' lo hi tb x := by
  obtain ⟨pb, n, f, h1, h2, h3, h4, h5, h6, h7, h8⟩ := h
  refine ⟨pb, n, f, (u _ h5).trans h1, h2.same (u _ h7), h3, h4, h5, h6, h7, fun id => ⟨(h8 id).1, fun p hp => ?_⟩⟩
  obtain ⟨g', cs, q1, q2, q3, q4, q5⟩ := (h8 id).2 p hp
  exact ⟨g', cs, q1, q2, q3, (u _ q3).trans q4, good_Page.keep q5 (fun y h1 h2 => u y h2)⟩
theorem cinfo_RecI : (Tryz.prog.info? 101).map (fun i => (i.zero, i.size, i.bytes)) = some (some (.agg #[.string ⟨#[]⟩, .string ⟨#[]⟩]), 2, 32) := by kernel_rfl
def VisP (b lo : Nat) (L : List TRecord) (w : World) (e : Ending) (w' : World) : Prop := e = .returned (.tuple #[]) ∧ ListR w' b lo L ∧ LW b lo w w'
set_option maxRecDepth 100000 in
set_option maxHeartbeats 4000000 in
theorem c_visit (b lo : Nat) (L : List TRecord) (k v : ByteArray) (w : World) (hk : k.size ≤ maxLen) (hv : v.size ≤ maxLen) (h : ListR w b lo L) (hl : L.length ≤ 1000) :
    Calls Tryz.prog 97 #[.agg #[.string k, .string v], .pointer (some ⟨b, 0, none⟩)] w (VisP b lo (L ++ [(k, v)]) w) := by
  obtain ⟨i0, hi0, hz0, hz1, hz2⟩ := info_parts cinfo_RecI
  obtain ⟨D, d, bl, kb, so, nd, hb, hlo⟩ := h
  have u1 : Up w ((w.alloc (.cells #[.string k, .string v] 101)).alloc (.cells #[.string k, .string v] 101)) := ((Up.refl _).alloc _).alloc _
  have kq : Bk ((w.alloc (.cells #[.string k, .string v] 101)).alloc (.cells #[.string k, .string v] 101)) (w.heap.size + 1) 101 #[.string k, .string v] := by
    simpa using Bk.new (w.alloc (.cells #[.string k, .string v] 101)) 101 #[.string k, .string v]
  have gb : (w.alloc (.cells #[.string k, .string v] 101)).cell? ⟨b, 0, none⟩ = some (.slice D L.length d) := (kb.alloc _).cell 0
  have hx1 : (L.length + 1) * i0.bytes ≤ 140737488355328 := by rw [hz2]; omega
  have hx2 : L.length + 1 ≤ maxLen := by unfold maxLen; omega
  have hin := so.in_ good_Record
  have kb1 := kb.up u1
  have so1 := so.up good_Record u1
  have ho : shRecord.own ((w.alloc (.cells #[.string k, .string v] 101)).alloc (.cells #[.string k, .string v] 101)) lo ((w.alloc (.cells #[.string k, .string v] 101)).alloc (.cells #[.string k, .string v] 101)).heap.size [.string k, .string v] (k, v) [] := mkORecord (x := (k, v)) hk hv
  have hlo1 := Nat.le_trans hlo u1.size
  have hbn : b ∉ bl := fun hm => by have := (hin _ hm).1; omega
  go_enter Tryz.func97, Tryz.ntmps97
  go_wp2_with (first
    | (at_builtin
       refine wpList_app good_Record rfl _ _ _ _ 101 rfl i0 _ Tryz.underlying26 hi0 hz0 hz1 (by rfl) (lo := lo) (xs := L) (ys := [(k, v)]) (bl := bl) (bs := [[]]) (news := [.string k, .string v]) rfl rfl so1 (by simpa using nd) (Src.box (t := 101) Tryz.underlying26 kq (by simp [Value.oneCell']) (by rw [hz1]; rfl)) (Rowed.one good_Record ho) hlo1 hx1 hx2 ?_
       intro D9 d9 bl9 w9 hap
       obtain ⟨so9, nd9, mem9, on9⟩ := hap
       have kb9 := kb1.only on9 hbn
       have gb9 : w9.cell? ⟨b, 0, none⟩ = some (.slice D L.length d) := kb9.cell 0
       have fb9 := kb9.frozen 0))
  refine bodyPost_end (v := .tuple #[]) (by simp [results, Tryz.results97, go_sem]) (by rfl) ?_
  have bt := But.set w9 b 0 (.slice D9 (L.length + 1) d9)
  have hb9 : ∀ y ∈ bl9, lo ≤ y := fun y hy => (so9.in_ good_Record y hy).1
  have kbE := kb9.set 0 (.slice D9 (L.length + 1) d9)
  refine ⟨rfl, ⟨D9, d9, bl9, ?_, so9.but good_Record bt hb, nd9, hb, by rw [bt.size]; exact Nat.le_trans hlo1 on9.size⟩, ?_⟩
  · rw [List.length_append]
    exact kbE
  · exact ⟨bt.os.trans (on9.os.trans u1.os), bt.tape.trans (on9.tape.trans u1.tape), bt.output.trans (on9.output.trans u1.output), by rw [bt.size]; exact Nat.le_trans u1.size on9.size, fun i hi hne => (bt.block i hne).trans ((on9.block i (by omega) (fun hm => by have := (hin _ hm).1; omega)).trans (u1.block i (by omega)))⟩
theorem eg_visit : ∀ args w, (callFunc 97 args).run Tryz.prog w = .ok (.enter 97 args) w := enters_of Tryz.func97 (by kernel_rfl) rfl
end Go.Proofs.YtpjcgglhlmifdaaGreatDoor

namespace Go.Proofs.YtpjcgglhlmifdaaGreatDoor
open Go.RowKit
set_option linter.unusedVariables false
set_option linter.unusedSimpArgs false

theorem zero_pagepRw (w : World) : (zeroValue 158).run Tryz.prog w = .ok (.pointer none) w := by kernel_rfl
def RecN (x : TBtree) (lo' hi tb b lo n : Nat) : Prop :=
  ∀ (id : Int) (g : Nat) (p : TPage) (L : List TRecord) (w : World), pgAt x id = some p → Stands x n id → L.length + (gatherB x n id).length ≤ 390 → PagesR w lo' hi tb x → hi ≤ b → ListR w b lo L → (∃ cs, Bk w g 88 cs.toArray ∧ g < hi ∧ shPage.rep w 0 hi cs p) →
    Calls Tryz.prog 96 #[.pointer (some ⟨tb, 0, none⟩), .pointer (some ⟨g, 0, none⟩), .func (.func 97) #[] #[.pointer (some ⟨b, 0, none⟩)]] w (VisP b lo (L ++ gatherB x n id) w)
def recsL (p : TPage) (k : Nat) : List TRecord := if p.1 = true then recsTo p k else []
set_option maxRecDepth 100000 in
set_option maxHeartbeats 16000000 in
theorem records_in {x : TBtree} (hs : SlotsP x.2) {lo' hi tb b lo n : Nat} (IH : RecN x lo' hi tb b lo n) : RecN x lo' hi tb b lo (n + 1) := by
  intro id g p L w hp hst hlen PR hhb LR hpg
  obtain ⟨q, hq, hkids⟩ := hst
  obtain rfl : q = p := by rw [hp] at hq; injection hq with e; exact e.symm
  clear hq
  have hpb := pgAt_ok hs hp
  have hg : gatherB x (n + 1) id = recsTo q q.2.2.1.length ++ kidsG (fun k => gatherB x n (q.2.2.2.getD k 0)) q.2.2.2.length := by rw [gatherB, hp]
  rw [hg] at hlen ⊢
  clear hg
  rw [List.length_append, recsTo_len] at hlen
  generalize hGf : (fun k => gatherB x n (q.2.2.2.getD k 0)) = G at hlen ⊢
  have HGf := Lib.hid (fun k => (congrFun hGf k).symm)
  clear hGf
  have HEND := Lib.hid (show recsL q q.2.1.length = recsTo q q.2.2.1.length by
    unfold recsL
    cases hl : q.1
    · rw [fork_vals hpb hl]; rfl
    · rw [(leaf_kids hpb hl).2.1]; rfl)
  have HKR := Lib.hid (fun k (hk : k < q.2.2.2.length) => show I64 q.2.2.2[k] by
    cases hl : q.1
    · exact kid_rng hpb hl k hk
    · have := (leaf_kids hpb hl).1; omega)
  have HKS := Lib.hid (fun k (hk : k < q.2.2.2.length) => show Stands x n q.2.2.2[k] by
    cases hl : q.1
    · have := hkids hl k hk
      rw [getD_inW hk] at this
      exact this
    · have := (leaf_kids hpb hl).1; omega)
  have h6 := keys_le6 hpb
  have HVK := Lib.hid (fun (hl : q.1 = true) => (leaf_kids hpb hl).2.1)
  have HKL := Lib.hid (show q.2.2.2.length ≤ 6 by
    cases hl : q.1
    · exact (kid_of_pageD hpb hl).1
    · have := leaf_kids hpb hl; omega)
  obtain ⟨cs, kg, hgh, hrep⟩ := hpg
  obtain ⟨A1, c1, A2, c2, A3, c3, rfl, b1, b2, b3⟩ := openPage hrep
  have hblo : b < lo := by obtain ⟨_, _, _, _, _, _, h, _⟩ := LR; exact h
  have hLv : q.2.2.1.length + L.length ≤ 390 := by omega
  have hLk := Lib.hid (fun k (hk : k ≤ q.2.2.2.length) => show (L ++ recsTo q q.2.2.1.length ++ kidsG G k).length ≤ 390 by
    have := kidsG_mono G hk
    rw [List.length_append, List.length_append, recsTo_len]
    omega)
  have hLg := Lib.hid (fun k (hk : k < q.2.2.2.length) => show (L ++ recsTo q q.2.2.1.length ++ kidsG G k).length + (G k).length ≤ 390 by
    have := kidsG_mono G (show k + 1 ≤ q.2.2.2.length by omega)
    rw [kidsG_succ, List.length_append] at this
    rw [List.length_append, List.length_append, recsTo_len]
    omega)
  have PRN := Lib.hid PR
  have LRN := Lib.hid LR
  have hsN := Lib.hid hs
  have EG := eg_visit
  have gp1 : w.cell? ⟨g, 1, none⟩ = some (.slice A1 q.2.1.length c1) := kg.cell 1
  clear hlen hp hkids hpb PR LR hs hrep
  go_enter Tryz.func96, Tryz.ntmps96
  go_wp2_with fail
  clear gp1
  go_loopw [15] (fun i wr => ∃ k : Nat, k ≤ q.2.1.length ∧ i = .int .i64 k ∧ Hid (ListR wr b lo (L ++ recsL q k)) ∧ Hid (LW b lo w wr)) (fun i _ => q.2.1.length - (intOf i).toNat)
  case atStart => exact ⟨0, Nat.zero_le _, rfl, by simpa [recsL, recsTo] using LRN, Lib.hid (LW.refl _ _ _)⟩
  case round =>
    obtain ⟨k, hk, rfl, HL, HW⟩ := hrel
    have kgr := HW.out.bk kg (by omega) (by omega)
    have keep : Keeps 0 hi w wr := fun y _ h2 => HW.out.block y (by omega) (by omega)
    have gp0 : wr.cell? ⟨g, 0, none⟩ = some (.bool q.1) := kgr.cell 0
    have gp2 : wr.cell? ⟨g, 2, none⟩ = some (.slice A2 q.2.2.1.length c2) := kgr.cell 2
    have gp3 : wr.cell? ⟨g, 3, none⟩ = some (.slice A3 q.2.2.2.length c3) := kgr.cell 3
    by_cases hlt : k < q.2.1.length
    · obtain ⟨ga, oa, hAa, _, _, hck, hsk⟩ := (SR.keep good_S b1 keep).at_S hlt
      subst hAa
      cases hl : q.1
      · rw [hl] at gp0
        have HN : Hid (ListR wr b lo (L ++ recsL q (k + 1))) := Lib.hid (by
          have h := HL.out
          unfold recsL at h ⊢
          rw [if_neg (by rw [hl]; decide)] at h ⊢
          exact h)
        clear hl keep
        go_wp2_with fail
        go_roundw
        case rel => exact ⟨k + 1, by omega, by go_num, HN, HW⟩
        case measure => simp [intOf]; omega
      · rw [hl] at gp0
        have hvk : k < q.2.2.1.length := by rw [HVK.out hl]; exact hlt
        obtain ⟨gc, oc, hAc, _, _, hcv, hsv⟩ := (SR.keep good_S b2 keep).at_S hvk
        subst hAc
        have hki : (k : Int) < (q.2.2.1.length : Int) := by omega
        have hrl : (L ++ recsL q k).length ≤ 1000 := by
          unfold recsL
          rw [if_pos hl, List.length_append, recsTo_len]
          omega
        have CV := Lib.hid (c_visit b lo (L ++ recsL q k) q.2.1[k] q.2.2.1[k] wr (by unfold maxLen; omega) (by unfold maxLen; omega) HL.out hrl)
        have HX := Lib.hid (show L ++ recsL q (k + 1) = L ++ recsL q k ++ [(q.2.1[k], q.2.2.1[k])] by
          unfold recsL
          rw [if_pos hl, if_pos hl, recsTo_succ, getD_inW hlt, getD_inW hvk, List.append_assoc])
        clear hl keep hrl
        go_wp2_with fail
        refine CV.out.mono ?_
        rintro e w5 ⟨rfl, l5, v5⟩
        rw [← HX.out] at l5
        have HN5 := Lib.hid l5
        have HW5 := Lib.hid (HW.out.trans v5)
        clear l5 v5
        go_wp2_with fail
        go_roundw
        case rel => exact ⟨k + 1, by omega, by go_num, HN5, HW5⟩
        case measure => simp [intOf]; omega
    · obtain rfl : k = q.2.1.length := by omega
      rw [HEND.out] at HL
      clear hlt keep gp0 gp2
      go_wp2_with fail
      clear gp3
      go_loopw [41] (fun i wk => ∃ k : Nat, k ≤ q.2.2.2.length ∧ i = .int .i64 k ∧ Hid (ListR wk b lo (L ++ recsTo q q.2.2.1.length ++ kidsG G k)) ∧ Hid (LW b lo w wk)) (fun i _ => q.2.2.2.length - (intOf i).toNat)
      case atStart => exact ⟨0, Nat.zero_le _, rfl, by simpa [kidsG] using HL, HW⟩
      case round =>
        clear HL HW kgr
        rename_i wr0
        obtain ⟨k, hk, rfl, HL, HW⟩ := hrel
        have keep : Keeps 0 hi w wr := fun y _ h2 => HW.out.block y (by omega) (by omega)
        by_cases hlt : k < q.2.2.2.length
        · obtain ⟨ga, oa, hAa, _, _, hck, hik⟩ := (SR.keep good_I b3 keep).at_I hlt
          subst hAa
          have hkl6 := HKL.out
          have hst := HKS.out k hlt
          obtain ⟨p2, hp2⟩ : ∃ p2, pgAt x q.2.2.2[k] = some p2 := by
            cases n with
            | zero => exact hst.elim
            | succ m => obtain ⟨p2, hp2, _⟩ := hst; exact ⟨p2, hp2⟩
          have PRr := PRN.out.same (w' := wr) (fun y h2 => HW.out.block y (by omega) (by omega))
          have PRrN := Lib.hid PRr
          obtain ⟨pb, n0, f, q1, q2, q3, q4, q5, q6, q7, q8⟩ := PRr
          obtain ⟨g2, cs2, hf2, _, hg2h, kg2, hr2⟩ := (q8 q.2.2.2[k]).2 p2 hp2
          have hlk := q2.look (t := 154) (e := 158) Tryz.underlying2 Tryz.underlying154 (zero_pagepRw _) (i := q.2.2.2[k]) (HKR.out k hlt)
          rw [hf2] at hlk
          simp only [ptrOf] at hlk
          have gt1 : wr.cell? ⟨tb, 1, none⟩ = some (.map (some pb)) := q1.cell 1
          have hgl := hLg.out k hlt
          rw [HGf.out k, getD_inW hlt] at hgl
          have CALL := Lib.hid (IH q.2.2.2[k] g2 p2 (L ++ recsTo q q.2.2.1.length ++ kidsG G k) wr hp2 hst hgl PRrN.out hhb HL.out ⟨cs2, kg2, hg2h, good_Page.wide hr2 (Nat.zero_le _) (Nat.le_refl _)⟩)
          have HX := Lib.hid (show L ++ recsTo q q.2.2.1.length ++ kidsG G (k + 1) = L ++ recsTo q q.2.2.1.length ++ kidsG G k ++ gatherB x n q.2.2.2[k] by
            rw [kidsG_succ, HGf.out k, getD_inW hlt]
            simp only [List.append_assoc])
          clear q8 q2 q3 q4 q5 q6 q7 hp2 hst hf2 kg2 hr2 hgl keep
          go_wp2_with fail
          refine CALL.out.mono ?_
          rintro e w5 ⟨rfl, l5, v5⟩
          rw [← HX.out] at l5
          have HN5 := Lib.hid l5
          have HW5 := Lib.hid (HW.out.trans v5)
          clear l5 v5
          go_wp2_with fail
          go_roundw
          case rel => exact ⟨k + 1, by omega, by go_num, HN5, HW5⟩
          case measure => simp [intOf]; omega
        · obtain rfl : k = q.2.2.2.length := by omega
          clear hlt keep
          go_wp2_with fail
          refine bodyPost_end (v := .tuple #[]) (by simp [results, Tryz.results96, go_sem]) (by rfl) ?_
          refine ⟨rfl, ?_, HW.out⟩
          rw [← List.append_assoc]
          exact HL.out
theorem c_records {x : TBtree} (hs : SlotsP x.2) {lo' hi tb b lo : Nat} : ∀ n, RecN x lo' hi tb b lo n
  | 0 => fun id g p L w _ hst _ _ _ _ _ => hst.elim
  | n + 1 => records_in hs (c_records hs n)
end Go.Proofs.YtpjcgglhlmifdaaGreatDoor

namespace Go.Proofs.YtpjcgglhlmifdaaGreatDoor
open Go.RowKit
set_option linter.unusedVariables false
set_option linter.unusedSimpArgs false

set_option maxRecDepth 100000 in
set_option maxHeartbeats 8000000 in
theorem c_all {x : TBtree} (hb : btreeB x = true) (hr : I64 x.1) {lo' hi tb : Nat} {w : World} (PR : PagesR w lo' hi tb x) (hhi : hi ≤ w.heap.size) :
    Calls Tryz.prog 53 #[.pointer (some ⟨tb, 0, none⟩)] w (ToL shRecord (gatherB x 64 x.1) w) := by
  have hs := slots_of_btree hb
  have hst := stands_root hb
  have h384 := gather_root hb
  have uu : Up w ((w.alloc (.cells #[] 101)).alloc (.cells #[.slice (some ⟨w.heap.size, 0, none⟩) 0 0] 26)) := ((Up.refl _).alloc _).alloc _
  have kl : Bk ((w.alloc (.cells #[] 101)).alloc (.cells #[.slice (some ⟨w.heap.size, 0, none⟩) 0 0] 26)) (w.heap.size + 1) 26 #[.slice (some ⟨w.heap.size, 0, none⟩) 0 0] := by
    simpa using Bk.new (w.alloc (.cells #[] 101)) 26 #[.slice (some ⟨w.heap.size, 0, none⟩) 0 0]
  have zz : ((w.alloc (.cells #[] 101)).alloc (.cells #[.slice (some ⟨w.heap.size, 0, none⟩) 0 0] 26)).heap.size = w.heap.size + 2 := by simp
  obtain ⟨pr, hpr⟩ : ∃ pr, pgAt x x.1 = some pr := by
    have h := hst
    obtain ⟨pr, hpr, _⟩ := h
    exact ⟨pr, hpr⟩
  have EG := eg_visit
  obtain ⟨L, hLe⟩ : ∃ L, L = gatherB x 64 x.1 := ⟨_, rfl⟩
  rw [← hLe]
  have HLE := Lib.hid hLe
  clear hLe
  go_enter Tryz.func53, Tryz.ntmps53
  go_wp2_with fail
  generalize ((w.alloc (.cells #[] 101)).alloc (.cells #[.slice (some ⟨w.heap.size, 0, none⟩) 0 0] 26)) = W0 at uu kl zz ⊢
  have PR0 := (PR.up uu hhi)
  have PRN : Hid (PagesR W0.drew lo' hi tb x) := Lib.hid (PR0.up (Up.refl W0).drew (by omega))
  obtain ⟨pb, n0, f, p1, p2, p3, p4, p5, p6, p7, p8⟩ := PR0
  obtain ⟨gr, csr, hfr, _, hgrh, kgr, hrr⟩ := (p8 x.1).2 pr hpr
  have hlk := (show PMap Tryz.prog 2 W0.drew pb n0 f from p2).look (t := 154) (e := 158) Tryz.underlying2 Tryz.underlying154 (zero_pagepRw _) (i := x.1) hr
  rw [hfr] at hlk
  simp only [ptrOf] at hlk
  have gt0 : W0.drew.cell? ⟨tb, 0, none⟩ = some (.int .i64 x.1) := p1.cell 0
  have gt1 : W0.drew.cell? ⟨tb, 1, none⟩ = some (.map (some pb)) := p1.cell 1
  have LR : ListR W0.drew (w.heap.size + 1) (w.heap.size + 2) [] := ⟨some ⟨w.heap.size, 0, none⟩, 0, [], kl, ⟨Nat.le_refl _, Nat.zero_le _, .inl ⟨rfl, rfl, rfl⟩⟩, List.nodup_nil, by omega, by show _ ≤ W0.heap.size; omega⟩
  have CALL := Lib.hid (c_records hs 64 x.1 gr pr [] W0.drew hpr hst (by simpa using (by omega : (gatherB x 64 x.1).length ≤ 390)) PRN.out (by omega) LR ⟨csr, kgr, hgrh, good_Page.wide hrr (Nat.zero_le _) (Nat.le_refl _)⟩)
  rw [List.nil_append, ← HLE.out] at CALL
  clear p8 p1 p2 p3 p4 p5 p6 p7 hpr hfr kgr hrr LR hs hst h384 PR hb
  go_region_with (go_at_call 96; refine CALL.out.mono ?_; rintro e w5 ⟨rfl, ⟨D, d, bl, k5, so5, nd5, hb5, hlo5⟩, v5⟩; have g5 : w5.cell? ⟨w.heap.size + 1, 0, none⟩ = some (.slice D L.length d) := k5.cell 0)
  all_goals (go_wp2_with fail)
  all_goals (refine bodyPost_ret (v := .slice D L.length d) (by simp [results, Tryz.results53, go_sem]) rfl ?_)
  all_goals (exact ⟨D, d, bl, rfl, so5.wide good_Record (lo' := w.heap.size) (by omega) (Nat.le_refl _), nd5, ⟨v5.os.trans uu.os, v5.tape.trans uu.tape, v5.output.trans uu.output, Nat.le_trans uu.size v5.size, fun i hi => (v5.block i (by omega) (by omega)).trans (uu.block i hi)⟩⟩)
end Go.Proofs.YtpjcgglhlmifdaaGreatDoor

namespace Go.Proofs.YtpjcgglhlmifdaaGreatDoor
open Go.RowKit
set_option linter.unusedVariables false
set_option linter.unusedSimpArgs false

end Go.Proofs.YtpjcgglhlmifdaaGreatDoor
