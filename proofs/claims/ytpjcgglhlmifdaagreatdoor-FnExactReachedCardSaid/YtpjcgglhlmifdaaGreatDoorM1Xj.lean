/-
  Inspections: one page, the program's.
-/
import Derived.Test.YtpjcgglhlmifdaaGreatDoorM1Xi
import Derived.Test.YtpjcgglhlmifdaaGreatDoorM1E
import Derived.Test.YtpjcgglhlmifdaaGreatDoorM1K
import Derived.Deep.RegionHeld3
import Derived.Deep.DeepCutAuto
import Derived.Deep.CutBlock
import Derived.Deep.LoopGhost
namespace Go.Proofs.YtpjcgglhlmifdaaGreatDoor
open Go.RowKit
set_option linter.unusedVariables false
set_option linter.unusedSimpArgs false

/-- What a visit of fuel n does, for every page that there is. -/
def InsN (x : TBtree) (lo hi tb sb wb n : Nat) : Prop :=
  ∀ (id D : Int) (far : Nat) (low high : ByteArray) (bL bH : Bool) (p : TPage) (s : TInsp) (A : Option Addr) (c : Nat) (bl : List Nat) (w : World), I64 id → Hid (D = (far : Int) - 1) → Hid (bL = decide (low ≠ ⟨#[]⟩)) → Hid (bH = decide (high ≠ ⟨#[]⟩)) → pgAt x id = some p → InR w lo hi tb sb wb x s A c bl → InsOk x s → x.2.length ≤ n + s.1.length → ((far = 1 ∧ id = x.1 ∧ s.1 = []) ∨ (2 ≤ far ∧ x.1 ∈ s.1)) → n + far ≤ 1000 →
    Calls Tryz.prog 108 #[.pointer (some ⟨wb, 0, none⟩), .int .i64 id, .agg #[.bool bL, .string low], .agg #[.bool bH, .string high], .int .i64 D] w (fun e w' => e = .returned (.tuple #[]) ∧ InT lo hi tb sb wb x (visitB x n id far low high s) bl w w')
theorem zero_boolX (w : World) : (zeroValue 4).run Tryz.prog w = .ok (.bool false) w := by kernel_rfl
theorem zero_pagepX (w : World) : (zeroValue 158).run Tryz.prog w = .ok (.pointer none) w := by kernel_rfl
theorem two_boxesX (w : World) (t : TypeId) (A B : Array Value) : Bk (((w.alloc (.cells A t)).alloc (.cells B t)).drew) w.heap.size t A ∧ Bk (((w.alloc (.cells A t)).alloc (.cells B t)).drew) (w.heap.size + 1) t B ∧ Up w (((w.alloc (.cells A t)).alloc (.cells B t)).drew) :=
  ⟨((Bk.new w t A).alloc _).drew, Bk.drew (by simpa using Bk.new (w.alloc (.cells A t)) t B), (((Up.refl w).alloc _).alloc _).drew⟩
theorem up4X {w w' : World} (u : Up w w') {a b c d : Addr} {x y z r : Value} (h : w.cell? a = some x ∧ w.cell? b = some y ∧ w.cell? c = some z ∧ w.cell? d = some r) : w'.cell? a = some x ∧ w'.cell? b = some y ∧ w'.cell? c = some z ∧ w'.cell? d = some r :=
  ⟨(u.cell (cell_lt h.1)).trans h.1, (u.cell (cell_lt h.2.1)).trans h.2.1, (u.cell (cell_lt h.2.2.1)).trans h.2.2.1, (u.cell (cell_lt h.2.2.2)).trans h.2.2.2⟩
set_option maxRecDepth 100000 in
set_option maxHeartbeats 4000000 in
theorem ins_twice {x : TBtree} (hs : SlotsP x.2) {lo hi tb sb wb n : Nat} {id D : Int} {far : Nat} {low high : ByteArray} {bL bH : Bool} {s : TInsp} {A : Option Addr} {c : Nat} {bl : List Nat} {w : World} (hid : I64 id) (R : InR w lo hi tb sb wb x s A c bl) (hok : InsOk x s) (hc : s.1.contains id = true) :
    Calls Tryz.prog 108 #[.pointer (some ⟨wb, 0, none⟩), .int .i64 id, .agg #[.bool bL, .string low], .agg #[.bool bH, .string high], .int .i64 D] w (fun e w' => e = .returned (.tuple #[]) ∧ InT lo hi tb sb wb x (visitB x n id far low high s) bl w w') := by
  rw [visitB_twice hc]
  obtain ⟨W2, hW2⟩ : ∃ W2, W2 = ((w.alloc (.cells #[.bool bL, .string low] 174)).alloc (.cells #[.bool bH, .string high] 174)) := ⟨_, rfl⟩
  have uu : Up w W2 := by rw [hW2]; exact ((Up.refl _).alloc _).alloc _
  have R2 := R.up uu
  have hlen := InsOk.len hs hok
  have CR := Lib.hid (c_report 3 id (by decide) hid R2 (by omega))
  have g1 : W2.cell? ⟨wb, 1, none⟩ = some (.map (some sb)) := R2.kw.cell 1
  have hl2 := R2.ks.look (t := 117) Tryz.underlying2 Tryz.underlying117 Tryz.underlying4 (zero_boolX _) (i := id) hid
  rw [hc] at hl2
  have HOK := Lib.hid hok
  clear hok hc hlen R R2
  go_enter Tryz.func108, Tryz.ntmps108
  go_upto_region 1 with fail
  rw [← hW2]
  clear hW2
  go_wp2_with fail
  refine CR.out.mono ?_
  rintro e w3 ⟨rfl, T⟩
  go_wp2_with fail
  refine bodyPost_ret (v := .tuple #[]) (by simp [results, Tryz.results108, go_sem]) rfl ?_
  exact ⟨rfl, T.from uu⟩
set_option maxRecDepth 100000 in
set_option maxHeartbeats 16000000 in
theorem ins_in {x : TBtree} (hs : SlotsP x.2) {lo hi tb sb wb n : Nat} (IH : InsN x lo hi tb sb wb n) {id D : Int} {far : Nat} {low high : ByteArray} {bL bH : Bool} {p : TPage} {s : TInsp} {A : Option Addr} {c : Nat} {bl : List Nat} {w : World} (hid : I64 id) (hD : Hid (D = (far : Int) - 1)) (hL : Hid (bL = decide (low ≠ ⟨#[]⟩))) (hH : Hid (bH = decide (high ≠ ⟨#[]⟩)))
    (hp : pgAt x id = some p) (R : InR w lo hi tb sb wb x s A c bl) (hok : InsOk x s) (hl : x.2.length ≤ n + 1 + s.1.length) (hfar : (far = 1 ∧ id = x.1 ∧ s.1 = []) ∨ (2 ≤ far ∧ x.1 ∈ s.1)) (hf1 : n + 1 + far ≤ 1000) (hc : s.1.contains id = false) :
    Calls Tryz.prog 108 #[.pointer (some ⟨wb, 0, none⟩), .int .i64 id, .agg #[.bool bL, .string low], .agg #[.bool bH, .string high], .int .i64 D] w (fun e w' => e = .returned (.tuple #[]) ∧ InT lo hi tb sb wb x (visitB x (n + 1) id far low high s) bl w w') := by
  have HW := Lib.hid (visitB_in (n := n) (far := far) (lo := low) (hi := high) hp hc)
  generalize visitB x (n + 1) id far low high s = r at HW ⊢
  have hpb := pgAt_ok hs hp
  have hroot : Hid (x.1 ∈ s.1 ++ [id]) := Lib.hid (by
    rcases hfar with ⟨_, e, _⟩ | ⟨_, e⟩
    · rw [e]; simp
    · exact List.mem_append_left _ e)
  have hne : far ≠ 1 → id ≠ x.1 := fun h e => by
    rcases hfar with ⟨e1, _⟩ | ⟨_, e1⟩
    · exact h e1
    · rw [e] at hc
      simp at hc
      exact hc e1
  have heq : far = 1 → id = x.1 := fun h => by
    rcases hfar with ⟨_, e1, _⟩ | ⟨e1, _⟩
    · exact e1
    · omega
  have hfp : 1 ≤ far := by omega
  clear hfar
  have hlen0 := InsOk.len hs hok
  have PG := Lib.hid (fun (k : Nat) (hk : k ≤ 6) => page_insp (n := n) (lo := low) (hi := high) hs hfp hok hp hc hk)
  have HD0 : Hid (∀ d, s.2.1 = some d → 1 ≤ d) := Lib.hid hok.2.1
  have hmet : s.1.length < maxLen := by have := metOk_len hok.1; have := slots_len hs; unfold maxLen; omega
  have HSL := Lib.hid hs
  clear hok hs
  obtain ⟨W2, hW2⟩ : ∃ W2, W2 = ((w.alloc (.cells #[.bool bL, .string low] 174)).alloc (.cells #[.bool bH, .string high] 174)) := ⟨_, rfl⟩
  have uu : Up w W2 := by rw [hW2]; exact ((Up.refl _).alloc _).alloc _
  have kb1 : Bk W2 w.heap.size 174 #[.bool bL, .string low] := by rw [hW2]; exact (Bk.new w _ _).alloc _
  have kb2 : Bk W2 (w.heap.size + 1) 174 #[.bool bH, .string high] := by rw [hW2]; simpa using Bk.new (w.alloc (.cells #[.bool bL, .string low] 174)) 174 #[.bool bH, .string high]
  have z2 : W2.heap.size = w.heap.size + 2 := by rw [hW2]; simp
  have hfarB := Lib.hid (R.far)
  have R2 := R.up uu
  have hhi : hi ≤ w.heap.size := by have := R.kw.lt; have := R.h2; omega
  have hR2 := R2.pg
  obtain ⟨pb, n0, f, p1, p2, p3, p4, p5, p6, p7, p8⟩ := hR2
  have g1 : W2.cell? ⟨wb, 1, none⟩ = some (.map (some sb)) := R2.kw.cell 1
  have hl2 := R2.ks.look (t := 117) Tryz.underlying2 Tryz.underlying117 Tryz.underlying4 (zero_boolX _) (i := id) hid
  rw [hc] at hl2
  obtain ⟨g, cs, hf, hg1, hg2, kg, hrep⟩ := (p8 id).2 p hp
  obtain ⟨A1, c1, A2, c2, A3, c3, hcs, b1, b2, b3⟩ := openPage hrep
  subst hcs
  obtain ⟨W3, hrun, ks3, bt⟩ := R2.ks.add (t := 117) Tryz.underlying2 Tryz.underlying117 Tryz.underlying4 hmet (i := id) hid hc
  have R3 := R2.met ks3 bt
  have hsb := R2.h1
  have hwb := R2.h2
  have hlk := (p2.but bt (show pb ≠ sb by omega)).look (t := 154) (e := 158) Tryz.underlying2 Tryz.underlying154 (zero_pagepX _) (i := id) hid
  rw [hf] at hlk
  simp only [ptrOf] at hlk
  have HK : Hid (∀ wx, Only (sb :: wb :: bl) W2 wx → Bk wx g 88 #[.bool p.1, .slice A1 p.2.1.length c1, .slice A2 p.2.2.1.length c2, .slice A3 p.2.2.2.length c3] ∧ Bk wx tb 156 #[.int .i64 x.1, .map (some pb)] ∧ Bk wx w.heap.size 174 #[.bool bL, .string low] ∧ Bk wx (w.heap.size + 1) 174 #[.bool bH, .string high] ∧ SR shS wx (pb + 1) hi A1 c1 p.2.1 ∧ SR shI wx (pb + 1) hi A3 c3 p.2.2.2) := Lib.hid (fun wx o => by
    have hn : ∀ y, y < hi → y ∉ sb :: wb :: bl := fun y hy hm => by have := (hfarB.out y hm).1; omega
    have hn2 : ∀ y, w.heap.size ≤ y → y ∉ sb :: wb :: bl := fun y hy hm => by have := (hfarB.out y hm).2; omega
    have kp : Keeps (pb + 1) hi W2 wx := fun y h1 h2 => o.block y (by omega) (hn y h2)
    exact ⟨kg.only o (hn g hg2), p1.only o (hn tb p5), kb1.only o (hn2 _ (Nat.le_refl _)), kb2.only o (hn2 _ (Nat.le_succ _)), SR.keep good_S b1 kp, SR.keep good_I b3 kp⟩)
  have o3 : Only (sb :: wb :: bl) W2 W3 := (Only.refl _ _).but bt (List.mem_cons_self ..)
  have hK3 := HK.out W3 o3
  obtain ⟨kg3, kt3, kb13, kb23, q13, q33⟩ := hK3
  have gw0 : W3.cell? ⟨wb, 0, none⟩ = some (.pointer (some ⟨tb, 0, none⟩)) := R3.kw.cell 0
  have gt1 : W3.cell? ⟨tb, 1, none⟩ = some (.map (some pb)) := kt3.cell 1
  have gp : W3.cell? ⟨g, 1, none⟩ = some (.slice A1 p.2.1.length c1) := kg3.cell 1
  have z3 : W3.heap.size = W2.heap.size := bt.size
  have CF := Lib.hid (c_ContainsFuncString 152 #[.pointer (some ⟨w.heap.size, 0, none⟩), .pointer (some ⟨w.heap.size + 1, 0, none⟩)] eg_vis1 (badKey low high) A1 c1 p.2.1 W3 (SR.wide good_S q13 (Nat.zero_le _) (by omega)) (fun W key _ hW => by
    rw [show (#[Value.string key] ++ #[.pointer (some ⟨w.heap.size, 0, none⟩), .pointer (some ⟨w.heap.size + 1, 0, none⟩)] : Array Value) = #[Value.string key, .pointer (some ⟨w.heap.size, 0, none⟩), .pointer (some ⟨w.heap.size + 1, 0, none⟩)] by simp]
    exact c_vis1 _ _ key low high bL bH W hL hH (kb13.up hW) (kb23.up hW)))
  have T3 : Hid (InT lo hi tb sb wb x (meetF s id) bl W2 W3) := Lib.hid ⟨A, c, bl, R3, o3, fun y hy => .inl hy⟩
  have hpN := Lib.hid hp
  have hcN := Lib.hid hc
  have hneN := Lib.hid hne
  have heqN := Lib.hid heq
  have hpbN := Lib.hid hpb
  clear hc hp hne heq hpb p8 p2 p1 p3 hrep b1 b2 b3 hf kg R kb1 kb2 ks3 bt hmet R2 R3 o3 q13 q33 kb13 kb23 kg3 kt3
  go_enter Tryz.func108, Tryz.ntmps108
  go_upto_region 1 with fail
  rw [← hW2]
  clear hW2
  go_wp2_with fail
  refine CF.out.mono ?_
  rintro e w4 ⟨rfl, uq4⟩
  have T4 := Lib.hid (T3.out.up uq4)
  clear CF T3 g1 hl2 hrun hlk gw0 gt1 gp z3
  obtain ⟨S1, hS1⟩ : ∃ S1, S1 = orderF id low high p (meetF s id) := ⟨_, rfl⟩
  have HS1 := Lib.hid hS1
  have hS1l : S1.2.2.length ≤ 577 := by
    rw [hS1]
    have h1 := (orderF_len id low high p (meetF s id)).2.2
    have h2 : (meetF s id).2.2.length = s.2.2.length := rfl
    omega
  have HS1d : Hid (∀ d, S1.2.1 = some d → 1 ≤ d) := Lib.hid (fun d hd => HD0.out d (by rw [hS1, (orderF_len id low high p (meetF s id)).2.1] at hd; exact hd))
  clear hS1
  go_upto_if 45 with fail
  go_cut [] (fun wx => Hid (InT lo hi tb sb wb x S1 bl W2 wx))
  case first =>
    cases hb : p.2.1.any (badKey low high)
    · have HE := Lib.hid (HS1.out.trans (orderF_no hb (meetF s id)))
      clear hb
      go_wp2_with fail
      go_meet
      exact Lib.hid (by rw [HE.out]; exact T4.out)
    · have HE := Lib.hid (HS1.out.trans (orderF_yes hb (meetF s id)))
      clear hb
      obtain ⟨A1', c1', bl1, R1, o1, m1⟩ := T4.out
      have CR := Lib.hid (c_report 4 id (by decide) hid R1 (show s.2.2.length ≤ 1000 by omega))
      have O1 := Lib.hid o1
      have M1 := Lib.hid m1
      clear R1 o1 m1
      go_wp2_with fail
      refine CR.out.mono ?_
      rintro e w5 ⟨rfl, T5⟩
      go_wp2_with fail
      go_meet
      exact Lib.hid (by rw [HE.out]; exact InT.then O1.out M1.out T5)
  clear T4 uq4
  have HP : Hid (pageF id far low high p s = fewF id far p (leafF id far p S1)) := Lib.hid (by rw [HS1.out]; rfl)
  clear HS1
  obtain ⟨A1', c1', bl1, R1, o1, m1⟩ := hcut.out
  obtain ⟨kg1, kt1, kb11, kb21, q11, q31⟩ := HK.out _ o1
  have g0 : wc.cell? ⟨g, 0, none⟩ = some (.bool p.1) := kg1.cell 0
  have hk1 := kg1
  obtain ⟨q1, hq1⟩ : ∃ q1, q1 = wc := ⟨_, rfl⟩
  subst hq1
  cases hlf : p.1
  · rw [hlf] at g0
    have HLF := Lib.hid (leafF_fork (id := id) (far := far) hlf S1)
    have gw0 : q1.cell? ⟨wb, 0, none⟩ = some (.pointer (some ⟨tb, 0, none⟩)) := R1.kw.cell 0
    have gt0 : q1.cell? ⟨tb, 0, none⟩ = some (.int .i64 x.1) := kt1.cell 0
    have CS := Lib.hid (c_small g p A1 A2 A3 p.2.2.1.length c1 c2 c3 q1 kg1)
    have CR := Lib.hid (c_report 6 id (by decide) hid R1 (by omega))
    have hlN := Lib.hid hlf
    have T1 := hcut
    have O1 := Lib.hid o1
    have M1 := Lib.hid m1
    have R1N := Lib.hid R1
    clear hlf hk1 kg1 kt1 kb11 kb21 q11 q31 R1 o1 m1 hcut
    go_upto_region 11 with fail
    go_cut [91] (fun t wx => t = .bool (decide (far ≠ 1 ∧ fillOf p < 3)) ∧ Up q1 wx)
    case first =>
      by_cases hf2 : far = 1
      · have hi0 := heqN.out hf2
        have hi1 : (id == x.1) = true := beq_iff_eq.2 hi0
        have hi2 : (id != x.1) = false := by rw [bne, hi1]; rfl
        have HQ := Lib.hid (show decide (far ≠ 1 ∧ fillOf p < 3) = false from decide_eq_false (fun h => h.1 hf2))
        clear hf2 hi0
        go_wp2_with fail
        go_meet
        exact ⟨by rw [HQ.out], Up.refl _⟩
      · have hi0 : ¬ id = x.1 := hneN.out hf2
        have hi1 : (id == x.1) = false := beq_eq_false_iff_ne.2 hi0
        have hi2 : (id != x.1) = true := by rw [bne, hi1]; rfl
        have HQ := Lib.hid (show decide (far ≠ 1 ∧ fillOf p < 3) = decide (fillOf p < 3) from decide_eq_decide.2 (by constructor; exact fun h => h.2; exact fun h => ⟨hf2, h⟩))
        clear hf2
        go_wp2_with fail
        refine CS.out.mono ?_
        rintro e w5 ⟨rfl, uq5⟩
        go_wp2_with fail
        go_meet
        exact ⟨by rw [HQ.out], uq5⟩
    obtain ⟨rfl, uq5⟩ := hcut
    obtain ⟨q5, hq5⟩ : ∃ q5, q5 = wc := ⟨_, rfl⟩
    subst hq5
    clear CS CR g0 gw0 gt0
    have T5 := Lib.hid (T1.out.up uq5)
    obtain ⟨S4, hS4⟩ : ∃ S4, S4 = pageF id far low high p s := ⟨_, rfl⟩
    have HS4 := Lib.hid hS4
    clear hS4
    go_upto_if 91 with fail
    go_cut [] (fun wx => Hid (InT lo hi tb sb wb x S4 bl W2 wx))
    case first =>
      by_cases hff : far ≠ 1 ∧ fillOf p < 3
      · have HE := Lib.hid (show S4 = tellF S1 6 id by rw [HS4.out, HP.out, HLF.out, fewF_yes hff])
        rw [decide_eq_true hff]
        clear hff
        have CR := Lib.hid (c_report 6 id (by decide) hid (R1N.out.up uq5) (by omega))
        have O5 := Lib.hid (O1.out.up uq5)
        go_wp2_with fail
        refine CR.out.mono ?_
        rintro e w6 ⟨rfl, T6⟩
        go_wp2_with fail
        go_meet
        exact Lib.hid (by rw [HE.out]; exact InT.then O5.out M1.out T6)
      · have HE := Lib.hid (show S4 = S1 by rw [HS4.out, HP.out, HLF.out, fewF_no hff])
        rw [decide_eq_false hff]
        clear hff
        go_wp2_with fail
        go_meet
        exact Lib.hid (by rw [HE.out]; exact T5.out)
    clear T5 T1 R1N O1 M1 uq5
    obtain ⟨q6, hq6⟩ : ∃ q6, q6 = wc := ⟨_, rfl⟩
    subst hq6
    have T6 := hcut
    obtain ⟨A6, c6, bl6, R6, o6, m6⟩ := hcut.out
    obtain ⟨kg6, kt6, kb16, kb26, q16, q36⟩ := HK.out _ o6
    have g3 : q6.cell? ⟨g, 3, none⟩ = some (.slice A3 p.2.2.2.length c3) := kg6.cell 3
    have hk63 : p.2.2.2.length ≤ 6 := page_kidsX hpbN.out
    have hn3 := q36.len_le
    clear hcut R6 o6 m6 kg6 kt6 kb16 kb26 q16 q36
    obtain ⟨G, hG⟩ : ∃ G, G = kidF x n far low high p := ⟨_, rfl⟩
    have HG := Lib.hid hG
    rw [← HG.out] at PG HW
    rw [← HS4.out] at PG HW
    clear hG
    have hD0 : 0 ≤ D ∧ D ≤ 1000 := by have := hD.out; omega
    have hwD : IntKind.i64.wrap (D + 1) = D + 1 := IntWalk.i64_in _ (by omega)
    go_wp2_with fail
    go_loopg [100] p.2.2.2.length (fun n i wr => ∃ k : Nat, n + k = p.2.2.2.length ∧ i = .int .i64 k ∧ Hid (InT lo hi tb sb wb x (kidsI G k S4) bl W2 wr))
    case atStart => exact ⟨0, Nat.add_zero _, rfl, T6⟩
    case round =>
      obtain ⟨k, hgk, rfl, HT⟩ := hrel
      have hk : k ≤ p.2.2.2.length := by omega
      clear g3
      obtain ⟨At, ct, blt, Rt, ot, mt⟩ := HT.out
      obtain ⟨kgr, ktr, kb1r, kb2r, q1r, q3r⟩ := HK.out _ ot
      by_cases hlt : k < p.2.2.2.length
      · obtain ⟨ga, oa, rfl, _, _, hcK, hb1, hb2⟩ := q3r.at_I hlt
        have KK := Lib.hid (kid_keys hpbN.out (by omega))
        have hkc := KK.out.2.2.2.1 k hlt
        obtain ⟨hinsT, hpreT⟩ := PG.out k (by omega)
        have hinsN := Lib.hid hinsT
        have hpreN := Lib.hid hpreT
        have hlenT : (kidsI G k S4).2.2.length ≤ 1000 := by have := InsOk.len HSL.out hinsT; omega
        have HKS : Hid (kidsI G (k + 1) S4 = G k (kidsI G k S4)) := Lib.hid rfl
        have gwr0 : wr.cell? ⟨wb, 0, none⟩ = some (.pointer (some ⟨tb, 0, none⟩)) := Rt.kw.cell 0
        have gtr1 : wr.cell? ⟨tb, 1, none⟩ = some (.map (some pb)) := ktr.cell 1
        have hPG := Rt.pg
        obtain ⟨pb', n0', f', p1', p2', p3', p4', p5', p6', p7', p8'⟩ := hPG
        have hpb2 : pb' = pb := by
          have h1 : wr.cell? ⟨tb, 1, none⟩ = some (.map (some pb')) := p1'.cell 1
          rw [h1] at gtr1
          simpa using gtr1
        subst hpb2
        have hlk := p2'.look_ok (t := 154) (e := 158) Tryz.underlying2 Tryz.underlying154 (zero_pagepX _) (i := p.2.2.2[k]) ⟨by omega, by omega⟩
        have h8 := p8' p.2.2.2[k]
        obtain ⟨kid, hkid⟩ : ∃ kid, kid = p.2.2.2[k] := ⟨_, rfl⟩
        cases hpk : pgAt x p.2.2.2[k] with
        | none =>
          rw [h8.1 hpk] at hlk
          have HE := Lib.hid (show kidsI G (k + 1) S4 = tellF (kidsI G k S4) 2 kid by rw [HKS.out, HG.out, kidF_none hlt hpk, hkid])
          rw [← hkid] at hlk hcK hkc hb1 hb2
          have CR := Lib.hid (c_report 2 kid (by decide) ⟨by omega, by omega⟩ Rt hlenT)
          have OT := Lib.hid ot
          have MT := Lib.hid mt
          have KR := Lib.hid kgr
          clear h8 hpk p8' p1' p2' Rt ot mt kgr ktr kb1r kb2r q1r q3r hinsT hpreT hkid hb1 hb2
          simp only [ptrOf, Option.isSome] at hlk
          go_wp2_with fail
          refine CR.out.mono ?_
          rintro e w6 ⟨rfl, T7⟩
          go_wp2_with fail
          go_roundg (gk - 1)
          case measure => omega
          case rel => exact ⟨k + 1, by omega, by go_num, Lib.hid (by rw [HE.out]; exact InT.then OT.out MT.out T7)⟩
        | some pk =>
          obtain ⟨gp2, csk, hfk, _⟩ := h8.2 pk hpk
          rw [hfk] at hlk
          have HE := Lib.hid (show kidsI G (k + 1) S4 = visitB x n kid (far + 1) (lowK p low k) (highK p high k) (kidsI G k S4) by rw [HKS.out, HG.out, kidF_some hlt hpk, hkid])
          rw [← hkid] at hlk hcK hkc hb1 hb2
          have hpkN := Lib.hid (show pgAt x kid = some pk by rw [hkid]; exact hpk)
          have OT := Lib.hid ot
          have MT := Lib.hid mt
          have RT := Lib.hid Rt
          have Q1 := Lib.hid q1r
          have KG := Lib.hid kgr
          have H4 : Hid (wr.cell? ⟨w.heap.size, 0, none⟩ = some (.bool bL) ∧ wr.cell? ⟨w.heap.size, 1, none⟩ = some (.string low) ∧ wr.cell? ⟨w.heap.size + 1, 0, none⟩ = some (.bool bH) ∧ wr.cell? ⟨w.heap.size + 1, 1, none⟩ = some (.string high)) := Lib.hid ⟨kb1r.cell 0, kb1r.cell 1, kb2r.cell 0, kb2r.cell 1⟩
          clear h8 hpk hfk p8' p1' p2' Rt ot mt kgr ktr kb1r kb2r q1r q3r hinsT hpreT hkid hb1 hb2
          simp only [ptrOf, Option.isSome] at hlk
          have TA := two_boxesX wr 174 #[.bool bL, .string low] #[.bool bH, .string high]
          have TB := two_boxesX wr 174 #[.bool bH, .string high] #[.bool bL, .string low]
          go_upto_region 19 with fail
          clear hlk gwr0 gtr1 hcK
          go_cut [15, 16] (fun s15 s16 wx => ∃ g15 g16 : Nat, s15 = .pointer (some ⟨g15, 0, none⟩) ∧ s16 = .pointer (some ⟨g16, 0, none⟩) ∧ g15 ≠ g16 ∧ Bk wx g15 174 #[.bool bL, .string low] ∧ Bk wx g16 174 #[.bool bH, .string high] ∧ Up wr wx ∧ wr.heap.size ≤ g15 ∧ wr.heap.size ≤ g16)
          case first =>
            go_region_held3 (fun W => W.cell? ⟨w.heap.size, 0, none⟩ = some (.bool bL) ∧ W.cell? ⟨w.heap.size, 1, none⟩ = some (.string low) ∧ W.cell? ⟨w.heap.size + 1, 0, none⟩ = some (.bool bH) ∧ W.cell? ⟨w.heap.size + 1, 1, none⟩ = some (.string high))
              (with_reducible first | exact up4X (Up.refl wr).drew H4.out | exact up4X ((Up.refl wr).alloc _).drew H4.out | exact up4X (((Up.refl wr).alloc _).alloc _).drew H4.out)
              (fail)
            all_goals
              go_wp2_with fail
              go_meet
              with_reducible first
                | exact ⟨_, _, rfl, rfl, Nat.ne_of_lt (Nat.lt_succ_self _), TA.1, TA.2.1, TA.2.2, Nat.le_refl _, Nat.le_succ _⟩
                | exact ⟨_, _, rfl, rfl, Nat.ne_of_gt (Nat.lt_succ_self _), TB.2.1, TB.1, TB.2.2, Nat.le_succ _, Nat.le_refl _⟩
          clear TA TB H4
          obtain ⟨g15, g16, rfl, rfl, hgg, k15, k16, uq6, h15, h16⟩ := hcut
          obtain ⟨q7, hq7⟩ : ∃ q7, q7 = wc := ⟨_, rfl⟩
          subst hq7
          have kgq := KG.out.up uq6
          have sq := SR.keep good_S Q1.out (uq6.keeps (by have := RT.out.kw.lt; have := RT.out.h2; omega))
          have gp1 : q7.cell? ⟨g, 1, none⟩ = some (.slice A1 p.2.1.length c1) := kgq.cell 1
          have KN := Lib.hid KK.out.2.2.2.2
          go_upto_if 125 with fail
          go_cut [] (fun wx => Bk wx g15 174 #[.bool (decide (lowK p low k ≠ ⟨#[]⟩)), .string (lowK p low k)] ∧ Bk wx g16 174 #[.bool bH, .string high] ∧ Up wr wx)
          case first =>
            by_cases hk0 : k = 0
            · have hki : ¬ (0 : Int) < (k : Int) := by omega
              have e1 : lowK p low k = low := if_neg (by omega)
              have HX : Hid (Bk q7 g15 174 #[.bool (decide (lowK p low k ≠ ⟨#[]⟩)), .string (lowK p low k)]) := Lib.hid (by rw [e1, ← hL.out]; exact k15)
              clear e1 hk0
              go_wp2_with fail
              go_meet
              exact ⟨HX.out, k16, uq6⟩
            · obtain ⟨m, rfl⟩ : ∃ m, k = m + 1 := ⟨k - 1, by omega⟩
              have hm : m < p.2.1.length := by have := KK.out.2.1; omega
              have e1 : lowK p low (m + 1) = p.2.1[m] := by unfold lowK; rw [if_pos (by omega), Nat.add_sub_cancel]; simp [List.getD, List.getElem?_eq_getElem hm]
              have e2 : decide (p.2.1[m] ≠ ⟨#[]⟩) = true := decide_eq_true (KN.out m hm)
              obtain ⟨gs, os, rfl, _, _, hck, _⟩ := sq.at_S hm
              have hi2' : (0 : Int) < (m : Int) + 1 := by omega
              have hwm : IntKind.i64.wrap (m : Int) = (m : Int) := IntWalk.i64_in _ (by omega)
              have hwm1 : IntKind.i64.wrap ((m : Int) + 1 - 1) = (m : Int) := by rw [Int.add_sub_cancel]; exact hwm
              have hm0 : (0 : Int) ≤ (m : Int) := by omega
              have hm1 : (m : Int) < (p.2.1.length : Int) := by omega
              have f0 := k15.frozen 0
              have f1 := k15.frozen 1
              have e0 : q7.cell? ⟨g15, 0, none⟩ = some (.bool bL) := k15.cell 0
              have e00 : q7.cell? ⟨g15, 1, none⟩ = some (.string low) := k15.cell 1
              have bt : But g15 q7 ((q7.setCell ⟨g15, 0, none⟩ (.bool true)).setCell ⟨g15, 1, none⟩ (.string p.2.1[m])) := But.sets (g := g15) [.bool true, .string p.2.1[m]] q7 0
              have kE : Bk ((q7.setCell ⟨g15, 0, none⟩ (.bool true)).setCell ⟨g15, 1, none⟩ (.string p.2.1[m])) g15 174 #[.bool true, .string p.2.1[m]] := k15.setsL [.bool true, .string p.2.1[m]] 0
              have HX : Hid (Bk ((q7.setCell ⟨g15, 0, none⟩ (.bool true)).setCell ⟨g15, 1, none⟩ (.string p.2.1[m])) g15 174 #[.bool (decide (lowK p low (m + 1) ≠ ⟨#[]⟩)), .string (lowK p low (m + 1))]) := Lib.hid (by rw [e1, e2]; exact kE)
              clear e1 e2 kE
              go_wp2_with fail
              go_meet
              exact ⟨HX.out, k16.butM bt (fun e => hgg e.symm), uq6.but bt h15⟩
          clear gp1 kgq sq k15 k16 uq6
          obtain ⟨k15, k16, uq6⟩ := hcut
          obtain ⟨q8, hq8⟩ : ∃ q8, q8 = wc := ⟨_, rfl⟩
          subst hq8
          have kgq := KG.out.up uq6
          have sq := SR.keep good_S Q1.out (uq6.keeps (by have := RT.out.kw.lt; have := RT.out.h2; omega))
          have gp1 : q8.cell? ⟨g, 1, none⟩ = some (.slice A1 p.2.1.length c1) := kgq.cell 1
          obtain ⟨bK, hbK⟩ : ∃ bK, bK = decide (lowK p low k ≠ ⟨#[]⟩) := ⟨_, rfl⟩
          have HBK := Lib.hid hbK
          rw [← hbK] at k15
          clear hbK
          obtain ⟨lk, hlk⟩ : ∃ lk, lk = lowK p low k := ⟨_, rfl⟩
          rw [← hlk] at k15 HBK HE
          clear hlk
          go_upto_if 141 with fail
          go_cut [] (fun wx => Bk wx g15 174 #[.bool bK, .string lk] ∧ Bk wx g16 174 #[.bool (decide (highK p high k ≠ ⟨#[]⟩)), .string (highK p high k)] ∧ Up wr wx)
          case first =>
            by_cases hk1 : k < p.2.1.length
            · have e1 : highK p high k = p.2.1[k] := by unfold highK; rw [if_pos hk1]; simp [List.getD, List.getElem?_eq_getElem hk1]
              have e2 : decide (p.2.1[k] ≠ ⟨#[]⟩) = true := decide_eq_true (KN.out k hk1)
              obtain ⟨gs, os, rfl, _, _, hck, _⟩ := sq.at_S hk1
              have hm1 : (k : Int) < (p.2.1.length : Int) := by omega
              have f0 := k16.frozen 0
              have f1 := k16.frozen 1
              have e0 : q8.cell? ⟨g16, 0, none⟩ = some (.bool bH) := k16.cell 0
              have e00 : q8.cell? ⟨g16, 1, none⟩ = some (.string high) := k16.cell 1
              have bt : But g16 q8 ((q8.setCell ⟨g16, 0, none⟩ (.bool true)).setCell ⟨g16, 1, none⟩ (.string p.2.1[k])) := But.sets (g := g16) [.bool true, .string p.2.1[k]] q8 0
              have kE : Bk ((q8.setCell ⟨g16, 0, none⟩ (.bool true)).setCell ⟨g16, 1, none⟩ (.string p.2.1[k])) g16 174 #[.bool true, .string p.2.1[k]] := k16.setsL [.bool true, .string p.2.1[k]] 0
              have HX : Hid (Bk ((q8.setCell ⟨g16, 0, none⟩ (.bool true)).setCell ⟨g16, 1, none⟩ (.string p.2.1[k])) g16 174 #[.bool (decide (highK p high k ≠ ⟨#[]⟩)), .string (highK p high k)]) := Lib.hid (by rw [e1, e2]; exact kE)
              clear e1 e2 kE
              go_wp2_with fail
              go_meet
              exact ⟨k15.butM bt hgg, HX.out, uq6.but bt h16⟩
            · have hki : ¬ (k : Int) < (p.2.1.length : Int) := by omega
              have e1 : highK p high k = high := if_neg hk1
              have HX : Hid (Bk q8 g16 174 #[.bool (decide (highK p high k ≠ ⟨#[]⟩)), .string (highK p high k)]) := Lib.hid (by rw [e1, ← hH.out]; exact k16)
              clear e1
              go_wp2_with fail
              go_meet
              exact ⟨k15, HX.out, uq6⟩
          clear gp1 kgq sq k15 k16 uq6
          obtain ⟨k15, k16, uq6⟩ := hcut
          obtain ⟨q9, hq9⟩ : ∃ q9, q9 = wc := ⟨_, rfl⟩
          subst hq9
          obtain ⟨bM, hbM⟩ : ∃ bM, bM = decide (highK p high k ≠ ⟨#[]⟩) := ⟨_, rfl⟩
          have HBM := Lib.hid hbM
          rw [← hbM] at k16
          clear hbM
          obtain ⟨hk', hhk⟩ : ∃ hk', hk' = highK p high k := ⟨_, rfl⟩
          rw [← hhk] at k16 HBM HE
          clear hhk
          have e15 : q9.cell? ⟨g15, 0, none⟩ = some (.bool bK) := k15.cell 0
          have e15' : q9.cell? ⟨g15, 1, none⟩ = some (.string lk) := k15.cell 1
          have e16 : q9.cell? ⟨g16, 0, none⟩ = some (.bool bM) := k16.cell 0
          have e16' : q9.cell? ⟨g16, 1, none⟩ = some (.string hk') := k16.cell 1
          have CALL := Lib.hid (IH kid (D + 1) (far + 1) lk hk' bK bM pk (kidsI G k S4) At ct blt q9 ⟨by omega, by omega⟩ (Lib.hid (by have := hD.out; omega)) HBK HBM hpkN.out (RT.out.up uq6) hinsN.out (by
            have := hpreN.out.length_le
            rw [List.length_append] at this
            simp only [List.length_singleton] at this
            omega) (.inr ⟨by omega, hpreN.out.subset hroot.out⟩) (by omega))
          clear k15 k16
          go_wp2_with fail
          refine CALL.out.mono ?_
          rintro e w8 ⟨rfl, T8⟩
          go_wp2_with fail
          go_roundg (gk - 1)
          case measure => omega
          case rel => exact ⟨k + 1, by omega, by go_num, Lib.hid (by rw [HE.out]; exact InT.then OT.out MT.out (T8.from uq6))⟩
      · obtain rfl : k = p.2.2.2.length := by omega
        have HR := Lib.hid (show r = kidsI G p.2.2.2.length S4 from HW.out)
        have hend : ¬ (p.2.2.2.length : Int) < (p.2.2.2.length : Int) := by omega
        clear Rt ot mt kgr ktr kb1r kb2r q1r q3r
        go_wp2_with fail
        refine bodyPost_end (v := .tuple #[]) (by simp [results, Tryz.results108, go_sem]) (by rfl) ?_
        exact ⟨rfl, by rw [HR.out]; exact HT.out.from uu⟩
  · rw [hlf] at g0
    obtain ⟨v1, hv1⟩ : ∃ v1, v1 = depV S1.2.1 := ⟨_, rfl⟩
    have gw2 : q1.cell? ⟨wb, 2, none⟩ = some (.int .i64 v1) := by rw [hv1]; exact R1.kw.cell 2
    have HV1 := Lib.hid hv1
    have fw2 := R1.kw.frozen 2
    have hlN := Lib.hid hlf
    have T1 := hcut
    have O1 := Lib.hid o1
    have M1 := Lib.hid m1
    have R1N := Lib.hid R1
    clear hlf hk1 kg1 kt1 kb11 kb21 q11 q31 R1 o1 m1 hcut hv1
    go_upto_if 59 with fail
    go_cut [] (fun wx => Hid (InT lo hi tb sb wb x (deepF S1 far) bl W2 wx))
    case first =>
      cases hd : S1.2.1 with
      | none =>
        have hv0 : v1 < 0 := by rw [HV1.out, hd]; decide
        have HE := Lib.hid (deepF_none hd far)
        have RE := Lib.hid (R1N.out.deep hD)
        have bE := But.set q1 wb 2 (.int .i64 D)
        have oE := Lib.hid ((Only.refl (sb :: wb :: bl1) q1).but bE (List.mem_cons_of_mem _ (List.mem_cons_self ..)))
        clear hd bE
        go_wp2_with fail
        go_meet
        exact Lib.hid (by rw [HE.out]; exact InT.then O1.out M1.out ⟨_, _, _, RE.out, oE.out, fun y hy => .inl hy⟩)
      | some d =>
        have hd1 := HS1d.out d hd
        have hv0 : ¬ v1 < 0 := by rw [HV1.out, hd]; show ¬ ((d : Int) - 1 < 0); omega
        have HE := Lib.hid (deepF_some hd far)
        clear hd
        go_wp2_with fail
        go_meet
        exact Lib.hid (by rw [HE.out]; exact T1.out)
    clear T1 O1 M1 R1N gw2 HV1 fw2 g0
    obtain ⟨d2, hd2⟩ : ∃ d2, (deepF S1 far).2.1 = some d2 := by
      obtain ⟨_, _, d, hd, _⟩ := deepF_met S1 far
      exact ⟨d, hd⟩
    have hS2l : (deepF S1 far).2.2.length ≤ 577 := by rw [(deepF_met S1 far).2.1]; exact hS1l
    have HLS := Lib.hid (fun (h : d2 = far) => leafF_same (id := id) hlN.out (s := S1) (far := far) (by rw [hd2, h]))
    have HLD := Lib.hid (fun (h : d2 ≠ far) => leafF_deep (id := id) hlN.out (s := S1) (far := far) (by rw [hd2]; exact fun e => h (by injection e)))
    obtain ⟨S2, hS2⟩ : ∃ S2, S2 = deepF S1 far := ⟨_, rfl⟩
    rw [← hS2] at hd2 hS2l HLS HLD hcut
    clear hS2
    obtain ⟨A2', c2', bl2, R2', o2, m2⟩ := hcut.out
    obtain ⟨q2, hq2⟩ : ∃ q2, q2 = wc := ⟨_, rfl⟩
    subst hq2
    obtain ⟨kg2, kt2, kb12, kb22, q12, q32⟩ := HK.out _ o2
    obtain ⟨v2, hv2⟩ : ∃ v2, v2 = (d2 : Int) - 1 := ⟨_, rfl⟩
    have g0 : q2.cell? ⟨g, 0, none⟩ = some (.bool true) := by have := kg2.cell 0; rw [← hlN.out]; exact this
    have gw2 : q2.cell? ⟨wb, 2, none⟩ = some (.int .i64 v2) := by have := R2'.kw.cell 2; rw [hd2] at this; rw [hv2]; exact this
    have HV2 := Lib.hid hv2
    have T2 := hcut
    have O2 := Lib.hid o2
    have M2 := Lib.hid m2
    have R2N := Lib.hid R2'
    have heqd : (v2 == D) = decide (d2 = far) := by
      rw [Bool.eq_iff_iff, beq_iff_eq, decide_eq_true_eq, hv2, hD.out]
      omega
    have HED := Lib.hid heqd
    clear kg2 kt2 kb12 kb22 q12 q32 R2' o2 m2 hcut hv2 hd2 heqd
    obtain ⟨S3, hS3⟩ : ∃ S3, S3 = leafF id far p S1 := ⟨_, rfl⟩
    have HS3 := Lib.hid hS3
    rw [← hS3] at HLS HLD HP
    clear hS3
    go_upto_if 75 with fail
    go_cut [] (fun wx => Hid (InT lo hi tb sb wb x S3 bl W2 wx))
    case first =>
      by_cases hdf : d2 = far
      · have hi1 : (v2 == D) = true := by rw [HED.out]; exact decide_eq_true hdf
        have hi0 : v2 = D := beq_iff_eq.1 hi1
        have hi2 : (v2 != D) = false := by rw [bne, hi1]; rfl
        have HE := Lib.hid (HLS.out hdf)
        clear hdf
        go_wp2_with fail
        go_meet
        exact Lib.hid (by rw [HE.out]; exact T2.out)
      · have hi1 : (v2 == D) = false := by rw [HED.out]; exact decide_eq_false hdf
        have hi0 : ¬ v2 = D := beq_eq_false_iff_ne.1 hi1
        have hi2 : (v2 != D) = true := by rw [bne, hi1]; rfl
        have HE := Lib.hid (HLD.out hdf)
        have CR := Lib.hid (c_report 5 id (by decide) hid R2N.out (by omega))
        clear hdf
        go_wp2_with fail
        refine CR.out.mono ?_
        rintro e w5 ⟨rfl, T5⟩
        go_wp2_with fail
        go_meet
        exact Lib.hid (by rw [HE.out]; exact InT.then O2.out M2.out T5)
    have hS3l : S3.2.2.length ≤ 578 := by
      by_cases h : d2 = far
      · rw [HLS.out h]; omega
      · rw [HLD.out h, (tellF_met S2 5 id).2.2]; omega
    clear T2 O2 M2 R2N gw2 HV2 HED g0 HLS HLD
    obtain ⟨A3', c3', bl3, R3', o3, m3⟩ := hcut.out
    obtain ⟨q3, hq3⟩ : ∃ q3, q3 = wc := ⟨_, rfl⟩
    subst hq3
    obtain ⟨kg3, kt3, kb13, kb23, q13, q33⟩ := HK.out _ o3
    have gw0 : q3.cell? ⟨wb, 0, none⟩ = some (.pointer (some ⟨tb, 0, none⟩)) := R3'.kw.cell 0
    have gt0 : q3.cell? ⟨tb, 0, none⟩ = some (.int .i64 x.1) := kt3.cell 0
    have CS := Lib.hid (c_small g p A1 A2 A3 p.2.2.1.length c1 c2 c3 q3 kg3)
    have T3 := hcut
    have O3 := Lib.hid o3
    have M3 := Lib.hid m3
    have R3N := Lib.hid R3'
    clear kg3 kt3 kb13 kb23 q13 q33 R3' o3 m3 hcut
    go_upto_region 11 with fail
    go_cut [91] (fun t wx => t = .bool (decide (far ≠ 1 ∧ fillOf p < 3)) ∧ Up q3 wx)
    case first =>
      by_cases hf2 : far = 1
      · have hi0 := heqN.out hf2
        have hi1 : (id == x.1) = true := beq_iff_eq.2 hi0
        have hi2 : (id != x.1) = false := by rw [bne, hi1]; rfl
        have HQ := Lib.hid (show decide (far ≠ 1 ∧ fillOf p < 3) = false from decide_eq_false (fun h => h.1 hf2))
        clear hf2 hi0
        go_wp2_with fail
        go_meet
        exact ⟨by rw [HQ.out], Up.refl _⟩
      · have hi0 : ¬ id = x.1 := hneN.out hf2
        have hi1 : (id == x.1) = false := beq_eq_false_iff_ne.2 hi0
        have hi2 : (id != x.1) = true := by rw [bne, hi1]; rfl
        have HQ := Lib.hid (show decide (far ≠ 1 ∧ fillOf p < 3) = decide (fillOf p < 3) from decide_eq_decide.2 (by constructor; exact fun h => h.2; exact fun h => ⟨hf2, h⟩))
        clear hf2
        go_wp2_with fail
        refine CS.out.mono ?_
        rintro e w5 ⟨rfl, uq5⟩
        go_wp2_with fail
        go_meet
        exact ⟨by rw [HQ.out], uq5⟩
    obtain ⟨rfl, uq5⟩ := hcut
    obtain ⟨q5, hq5⟩ : ∃ q5, q5 = wc := ⟨_, rfl⟩
    subst hq5
    clear CS gw0 gt0
    have T5 := Lib.hid (T3.out.up uq5)
    obtain ⟨S4, hS4⟩ : ∃ S4, S4 = pageF id far low high p s := ⟨_, rfl⟩
    have HS4 := Lib.hid hS4
    clear hS4
    go_upto_if 91 with fail
    go_cut [] (fun wx => Hid (InT lo hi tb sb wb x S4 bl W2 wx))
    case first =>
      by_cases hff : far ≠ 1 ∧ fillOf p < 3
      · have HE := Lib.hid (show S4 = tellF S3 6 id by rw [HS4.out, HP.out, fewF_yes hff])
        rw [decide_eq_true hff]
        clear hff
        have CR := Lib.hid (c_report 6 id (by decide) hid (R3N.out.up uq5) (by omega))
        have O5 := Lib.hid (O3.out.up uq5)
        go_wp2_with fail
        refine CR.out.mono ?_
        rintro e w6 ⟨rfl, T6⟩
        go_wp2_with fail
        go_meet
        exact Lib.hid (by rw [HE.out]; exact InT.then O5.out M3.out T6)
      · have HE := Lib.hid (show S4 = S3 by rw [HS4.out, HP.out, fewF_no hff])
        rw [decide_eq_false hff]
        clear hff
        go_wp2_with fail
        go_meet
        exact Lib.hid (by rw [HE.out]; exact T5.out)
    clear T5 T3 R3N O3 M3 uq5
    obtain ⟨q6, hq6⟩ : ∃ q6, q6 = wc := ⟨_, rfl⟩
    subst hq6
    have T6 := hcut
    obtain ⟨A6, c6, bl6, R6, o6, m6⟩ := hcut.out
    obtain ⟨kg6, kt6, kb16, kb26, q16, q36⟩ := HK.out _ o6
    have hk0 : p.2.2.2.length = 0 := by
      rcases Nat.eq_zero_or_pos p.2.2.2.length with h | h
      · exact h
      · have := (kid_keys hpbN.out h).1
        rw [hlN.out] at this
        cases this
    have g3 : q6.cell? ⟨g, 3, none⟩ = some (.slice A3 0 c3) := by have := kg6.cell 3; rw [← hk0]; exact this
    have HR := Lib.hid (show r = S4 by rw [HW.out, ← HS4.out, hk0]; rfl)
    clear hcut R6 o6 m6 kg6 kt6 kb16 kb26 q16 q36 hk0
    go_wp2_with fail
    go_loopw [100] (fun i wr => i = .int .i64 0 ∧ wr = q6) (fun i _ => 0)
    case atStart => exact ⟨rfl, rfl⟩
    case round =>
      obtain ⟨rfl, rfl⟩ := hrel
      go_wp2_with fail
      refine bodyPost_end (v := .tuple #[]) (by simp [results, Tryz.results108, go_sem]) (by rfl) ?_
      exact ⟨rfl, by rw [HR.out]; exact T6.out.from uu⟩
theorem c_insp {x : TBtree} (hs : SlotsP x.2) {lo hi tb sb wb : Nat} : ∀ n, InsN x lo hi tb sb wb n
  | 0 => fun id D far low high bL bH p s A c bl w hid hD hL hH hp R hok hl hfar hf => ins_twice hs hid R hok (metOk_full hok.1 (by omega) hp)
  | n + 1 => fun id D far low high bL bH p s A c bl w hid hD hL hH hp R hok hl hfar hf => by
    cases hc : s.1.contains id
    · exact ins_in hs (c_insp hs n) hid hD hL hH hp R hok hl hfar hf hc
    · exact ins_twice hs hid R hok hc
end Go.Proofs.YtpjcgglhlmifdaaGreatDoor
