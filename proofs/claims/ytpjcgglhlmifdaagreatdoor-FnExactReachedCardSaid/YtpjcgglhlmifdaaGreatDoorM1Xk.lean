/-
  FaultsOf and Reached: the program's.
-/
import Derived.Test.YtpjcgglhlmifdaaGreatDoorM1Xj
import Derived.Test.YtpjcgglhlmifdaaGreatDoorM1Xo
import Derived.Test.YtpjcgglhlmifdaaGreatDoorM1Rl
import Derived.Test.YtpjcgglhlmifdaaGreatDoorM1Qt
namespace Go.Proofs.YtpjcgglhlmifdaaGreatDoor
open Go.RowKit
set_option linter.unusedVariables false
set_option linter.unusedSimpArgs false

/-- What an inspection of y leaves. -/
def InspE (y : TBtree) (w : World) (e : Ending) (w' : World) : Prop :=
  ∃ lo hi tb sb wb A c bl, e = .returned (.pointer (some ⟨wb, 0, none⟩)) ∧ InR w' lo hi tb sb wb y (lookTo y y.2.length) A c bl ∧ Up w w' ∧ w.heap.size ≤ hi
set_option maxRecDepth 100000 in
set_option maxHeartbeats 8000000 in
theorem c_inspected (v : Value) (y : TBtree) (w : World) (h : AV shBtree w v y) (hs : SlotsP y.2) (hn : shBtree.sz y ≤ 1048576) : Calls Tryz.prog 65 #[v] w (InspE y w) := by
  have hv := h
  obtain ⟨cs, rfl, h⟩ := h
  have ho := openBtree h
  obtain ⟨A0, c0, rfl, br, b00⟩ := ho
  clear h
  have hlen := b00.len_le
  obtain ⟨W1, hW1⟩ : ∃ W1, W1 = w.alloc (.cells #[.int .i64 y.1, .slice A0 y.2.length c0] 30) := ⟨_, rfl⟩
  have u1 : Up w W1 := by rw [hW1]; exact (Up.refl w).alloc _
  have kT : Bk W1 w.heap.size 30 #[.int .i64 y.1, .slice A0 y.2.length c0] := by rw [hW1]; exact Bk.new _ _ _
  have CP := Lib.hid (c_pagesOf _ y W1 (hv.up good_Btree u1) hs hn)
  have g0 : W1.cell? ⟨w.heap.size, 0, none⟩ = some (.int .i64 y.1) := kT.cell 0
  have g1 : W1.cell? ⟨w.heap.size, 1, none⟩ = some (.slice A0 y.2.length c0) := kT.cell 1
  have HSL := Lib.hid hs
  have hmm := @run_makeMap Tryz.prog
  have hl64 := slots_len hs
  clear hs hn hv
  go_enter Tryz.func65, Tryz.ntmps65
  go_upto_region 1 with fail
  rw [← hW1]
  clear hW1
  go_wp2_with fail
  refine CP.out.mono ?_
  rintro e w2 ⟨tb, rfl, PR, u2⟩
  clear CP g0 g1
  obtain ⟨W3, hW3⟩ : ∃ W3, W3 = ((w2.alloc (.map #[] 0)).alloc (.cells #[.pointer (some ⟨tb, 0, none⟩), .map (some w2.heap.size), .int .i64 (-1), .slice none 0 0] 119)) := ⟨_, rfl⟩
  have u3 : Up w2 W3 := by rw [hW3]; exact ((Up.refl _).alloc _).alloc _
  have kw3 : Bk W3 (w2.heap.size + 1) 119 #[.pointer (some ⟨tb, 0, none⟩), .map (some w2.heap.size), .int .i64 (-1), .slice none 0 0] := by rw [hW3]; simpa using Bk.new (w2.alloc (.map #[] 0)) 119 #[.pointer (some ⟨tb, 0, none⟩), .map (some w2.heap.size), .int .i64 (-1), .slice none 0 0]
  have ks3 : MSet Tryz.prog 2 4 W3 w2.heap.size [] := by rw [hW3]; exact (MSet.made w2).up ((Up.refl _).alloc _)
  have R3 : InR W3 W1.heap.size w2.heap.size tb w2.heap.size (w2.heap.size + 1) y ([], none, []) none 0 [] :=
    ⟨PR.up u3 (Nat.le_refl _), Nat.le_refl _, Nat.le_succ _, Nat.ne_of_lt (Nat.lt_succ_self _), kw3, ks3, SO.nil _ _ _, List.nodup_nil, by simp, by simp⟩
  have kT3 := (kT.up u2).up u3
  have z12 := (u1.trans u2).size
  have z1 := u1.size
  have z3 := u3.size
  have uw3 := (u1.trans u2).trans u3
  clear PR kw3 ks3
  go_upto_region 2 with fail
  rw [← hW3]
  clear hW3 hmm
  have g0 : W3.cell? ⟨w.heap.size, 0, none⟩ = some (.int .i64 y.1) := kT3.cell 0
  have gw0 : W3.cell? ⟨w2.heap.size + 1, 0, none⟩ = some (.pointer (some ⟨tb, 0, none⟩)) := R3.kw.cell 0
  have R3N := Lib.hid R3
  obtain ⟨pb, n0, f, p1, p2, p3, p4, p5, p6, p7, p8⟩ := R3.pg
  have gt1 : W3.cell? ⟨tb, 1, none⟩ = some (.map (some pb)) := p1.cell 1
  have hlk := p2.look_ok (t := 154) (e := 158) Tryz.underlying2 Tryz.underlying154 (zero_pagepX _) (i := y.1) br
  have h8 := p8 y.1
  have hsome : (f y.1).isSome = (pgAt y y.1).isSome := by
    cases hp : pgAt y y.1 with
    | none => rw [h8.1 hp]; rfl
    | some p => obtain ⟨g, cs, hf, _⟩ := h8.2 p hp; rw [hf]; rfl
  have hlkU := fun t : UpT W3 => (p2.up t.up).look_ok (t := 154) (e := 158) Tryz.underlying2 Tryz.underlying154 (zero_pagepX _) (i := y.1) br
  rw [hsome] at hlk
  simp only [hsome] at hlkU
  generalize ptrOf (f y.1) = V at hlk hlkU
  have g0u := fun t : UpT W3 => cell_up t g0
  have gw0u := fun t : UpT W3 => cell_up t gw0
  have gt1u := fun t : UpT W3 => cell_up t gt1
  clear hsome h8 p8 p1 p2 p3 p4 p5 p6 p7 R3
  go_cut [4, 5] (fun a b wx => b = .bool (pgAt y y.1).isSome ∧ Up W3 wx)
  case first =>
    clear hlk gt1 gw0 g0
    refine wp_region_up (by kernel_rfl) (by kernel_rfl) ?_
    repeat (go_big_quiet_step (fail))
    refine wpQuiet_nil ?_
    rintro w1 ⟨⟨w1', u1⟩, rfl⟩
    go_wp2_with fail
    go_meet
    exact ⟨rfl, u1⟩
  clear hlk gt1 gw0 g0 hlkU g0u gw0u gt1u
  obtain ⟨rfl, u4⟩ := hcut
  obtain ⟨q4, hq4⟩ : ∃ q4, q4 = wc := ⟨_, rfl⟩
  subst hq4
  have kT4 := kT3.up u4
  have R4 := Lib.hid (R3N.out.up u4)
  have g0 : q4.cell? ⟨w.heap.size, 0, none⟩ = some (.int .i64 y.1) := kT4.cell 0
  have HLZ := Lib.hid (lookTo_zero y)
  have HLN := Lib.hid (fun h => (lookTo_zero y).trans (look_none (x := y) h))
  have HLS := Lib.hid (fun p h => (lookTo_zero y).trans (look_some (x := y) (p := p) h))
  obtain ⟨B, hB⟩ : ∃ B, B = (pgAt y y.1).isSome := ⟨_, rfl⟩
  rw [← hB]
  go_upto_if 26 with fail
  go_cut [] (fun wx => Hid (InT W1.heap.size w2.heap.size tb w2.heap.size (w2.heap.size + 1) y (lookTo y 0) [] q4 wx))
  case first =>
    cases hp : pgAt y y.1 with
    | none =>
      obtain rfl : B = false := by rw [hB, hp]; rfl
      clear hB
      have HE := Lib.hid (HLN.out hp)
      have CR := Lib.hid (c_report 1 y.1 (by decide) br R4.out (by show (0 : Nat) ≤ 1000; omega))
      clear hp
      go_wp2_with fail
      refine CR.out.mono ?_
      rintro e w5 ⟨rfl, T5⟩
      go_wp2_with fail
      go_meet
      exact Lib.hid (by rw [HE.out]; exact T5)
    | some p =>
      obtain rfl : B = true := by rw [hB, hp]; rfl
      clear hB
      have HE := Lib.hid (HLS.out p hp)
      have CI := Lib.hid (c_insp HSL.out 64 y.1 0 1 ⟨#[]⟩ ⟨#[]⟩ false false p ([], none, []) none 0 [] q4 br (Lib.hid rfl) (Lib.hid (by simp)) (Lib.hid (by simp)) hp R4.out ⟨metOk_nil y, fun d h => (by cases h), Nat.le_refl _⟩ (by simpa using hl64) (.inl ⟨rfl, rfl, rfl⟩) (by omega))
      clear hp
      go_wp2_with fail
      refine CI.out.mono ?_
      rintro e w5 ⟨rfl, T5⟩
      go_wp2_with fail
      go_meet
      exact Lib.hid (by rw [HE.out]; exact T5)
  clear HLN HLS g0 hB
  have T4 := hcut
  obtain ⟨q5, hq5⟩ : ∃ q5, q5 = wc := ⟨_, rfl⟩
  subst hq5
  have g1 : q5.cell? ⟨w.heap.size, 1, none⟩ = some (.slice A0 y.2.length c0) := by
    obtain ⟨_, _, _, _, o, _⟩ := T4.out
    have hq1 := kT.lt
    have hq2 := u2.size
    have h := kT4.only o (by simp; omega)
    exact h.cell 1
  have uw4 := uw3.trans u4
  clear hcut
  go_wp2_with fail
  clear g1
  go_loopw [40] (fun i wr => ∃ k : Nat, k ≤ y.2.length ∧ i = .int .i64 k ∧ Hid (InT W1.heap.size w2.heap.size tb w2.heap.size (w2.heap.size + 1) y (lookTo y k) [] q4 wr)) (fun i _ => y.2.length - (intOf i).toNat)
  case atStart => exact ⟨0, Nat.zero_le _, rfl, T4⟩
  case round =>
    obtain ⟨k, hk, rfl, HT⟩ := hrel
    obtain ⟨At, ct, blt, Rt, ot, mt⟩ := HT.out
    have uwr : Up w wr := uw4.only ot (fun y hy => by
      rcases List.mem_cons.1 hy with h | h
      · omega
      · rcases List.mem_cons.1 h with h | h
        · omega
        · cases h)
    by_cases hlt : k < y.2.length
    · obtain ⟨g, off, A2, c2, A3, c3, A4, c4, hA, _, hgl, hc0, hc1, hc2, hc3, hc4, b0, b2, b3, b4, _⟩ := atSlot (b00.up good_Slot uwr) hlt
      subst hA
      have kS := Bk.new wr 116 #[.int .i64 y.2[k].1, .bool y.2[k].2.1, .slice A2 y.2[k].2.2.1.length c2, .slice A3 y.2[k].2.2.2.1.length c3, .slice A4 y.2[k].2.2.2.2.length c4]
      have uS : Up wr (wr.alloc (.cells #[.int .i64 y.2[k].1, .bool y.2[k].2.1, .slice A2 y.2[k].2.2.1.length c2, .slice A3 y.2[k].2.2.2.1.length c3, .slice A4 y.2[k].2.2.2.2.length c4] 116)) := (Up.refl wr).alloc _
      have HYES := Lib.hid (fun h => lookTo_yes (x := y) hlt h)
      have HNO := Lib.hid (fun h => lookTo_no (x := y) hlt h)
      have hl7 : (lookTo y k).2.2.length ≤ 1000 := by have := lookTo_len HSL.out k; omega
      have OT := Lib.hid ot
      have MT := Lib.hid mt
      have RT := Lib.hid Rt
      clear Rt ot mt
      go_upto_region 9 with fail
      generalize (wr.alloc (.cells #[.int .i64 y.2[k].1, .bool y.2[k].2.1, .slice A2 y.2[k].2.2.1.length c2, .slice A3 y.2[k].2.2.2.1.length c3, .slice A4 y.2[k].2.2.2.2.length c4] 116)) = q6 at kS uS ⊢
      clear hc0 hc1 hc2 hc3 hc4 b2 b3 b4
      have R6 := RT.out.up uS
      have gw1 : q6.cell? ⟨w2.heap.size + 1, 1, none⟩ = some (.map (some w2.heap.size)) := R6.kw.cell 1
      have gs0 : q6.cell? ⟨wr.heap.size, 0, none⟩ = some (.int .i64 y.2[k].1) := kS.cell 0
      have hl2 := R6.ks.look (t := 117) Tryz.underlying2 Tryz.underlying117 Tryz.underlying4 (zero_boolX _) (i := y.2[k].1) b0
      have R6N := Lib.hid R6
      have e9 : (lookTo y k).1 = (lookB y).1 := rfl
      have hl2u := fun t : UpT q6 => (R6.ks.up t.up).look (t := 117) Tryz.underlying2 Tryz.underlying117 Tryz.underlying4 (zero_boolX _) (i := y.2[k].1) b0
      rw [e9] at hl2
      simp only [e9] at hl2u
      have gw1u := fun t : UpT q6 => cell_up t gw1
      have gs0u := fun t : UpT q6 => cell_up t gs0
      clear R6 e9 gw1 gs0 hl2
      cases hc : (lookB y).1.contains y.2[k].1
      · simp only [hc] at hl2u
        have HE := Lib.hid (HNO.out hc)
        clear hc HYES HNO
        refine wp_region_up (by kernel_rfl) (by kernel_rfl) ?_
        repeat (go_big_quiet_step (fail))
        refine wpQuiet_nil ?_
        rintro q7 ⟨⟨q7x, u7⟩, rfl⟩
        have CR := Lib.hid (c_report 7 y.2[k].1 (by decide) b0 (R6N.out.up u7) hl7)
        have gs1 : q7.cell? ⟨wr.heap.size, 0, none⟩ = some (.int .i64 y.2[k].1) := gs0u ⟨q7, u7⟩
        clear hl2u gw1u gs0u
        go_wp2_with fail
        refine CR.out.mono ?_
        rintro e w7 ⟨rfl, T7⟩
        go_wp2_with fail
        go_roundw
        case rel => exact ⟨k + 1, by omega, by go_num, Lib.hid (by rw [HE.out]; exact InT.then OT.out MT.out (T7.from (uS.trans u7)))⟩
        case measure => simp [intOf]; omega
      · simp only [hc] at hl2u
        have HE := Lib.hid (HYES.out hc)
        clear hc HYES HNO
        refine wp_region_up (by kernel_rfl) (by kernel_rfl) ?_
        repeat (go_big_quiet_step (fail))
        refine wpQuiet_nil ?_
        rintro q7 ⟨⟨q7x, u7⟩, rfl⟩
        clear hl2u gw1u gs0u
        go_wp2_with fail
        go_roundw
        case rel => exact ⟨k + 1, by omega, by go_num, Lib.hid (by rw [HE.out]; exact HT.out.up (uS.trans u7))⟩
        case measure => simp [intOf]; omega
    · obtain rfl : k = y.2.length := by omega
      have RT := Lib.hid Rt
      clear Rt ot mt
      go_wp2_with fail
      refine bodyPost_ret (v := .pointer (some ⟨w2.heap.size + 1, 0, none⟩)) (by simp [results, Tryz.results65, go_sem]) rfl ?_
      exact ⟨_, _, tb, _, _, At, ct, blt, rfl, RT.out, uwr, by omega⟩
set_option maxRecDepth 100000 in
set_option maxHeartbeats 4000000 in
theorem ci_FaultsOf (v : Value) (y : TBtree) (w : World) (h : AV shBtree w v y) (hn : shBtree.sz y ≤ 1048576) (htab : Tab w) (hm : MaxL w) : Calls Tryz.prog 30 #[v] w (ToLR shFault (faultsB y) (faultC y) w) := by
  have hv := h
  obtain ⟨cs, rfl, h⟩ := h
  obtain ⟨A0, c0, rfl, br, b00⟩ := openBtree h
  clear h
  have kT := Bk.new w 30 #[.int .i64 y.1, .slice A0 y.2.length c0]
  have uu : Up w (w.alloc (.cells #[.int .i64 y.1, .slice A0 y.2.length c0] 30)) := (Up.refl w).alloc _
  have CB := Lib.hid (ci_SlotsOk _ y _ (hv.up good_Btree uu) hn (tab_up htab uu) (maxL_up hm uu))
  have g0 : World.cell? _ ⟨w.heap.size, 0, none⟩ = some (.int .i64 y.1) := kT.cell 0
  have g1 : World.cell? _ ⟨w.heap.size, 1, none⟩ = some (.slice A0 y.2.length c0) := kT.cell 1
  go_enter Tryz.func30, Tryz.ntmps30
  go_wp2_with fail
  refine CB.out.mono ?_
  rintro e w1 ⟨rfl, u1⟩
  have U1 := uu.trans u1
  have kT1 := kT.up u1
  cases hb : slotsB y.2
  · have HE := Lib.hid (faults_no hb)
    have HC := Lib.hid (faultC_no hb)
    clear hb CB g0 g1
    go_wp2_with fail
    refine bodyPost_ret (v := .tuple #[.slice none 0 0, .int .i64 1]) (by simp [results, Tryz.results30, go_sem]) rfl ?_
    exact ToLR.mk (ys := []) HE.out HC.out (SO.nil _ _ _) List.nodup_nil U1
  · have HE := Lib.hid (faults_yes hb)
    have HC := Lib.hid (faultC_yes hb)
    have CI := Lib.hid (c_inspected _ y w1 (hv.up good_Btree U1) (slotsP_of hb) hn)
    have g0' : w1.cell? ⟨w.heap.size, 0, none⟩ = some (.int .i64 y.1) := kT1.cell 0
    have g1' : w1.cell? ⟨w.heap.size, 1, none⟩ = some (.slice A0 y.2.length c0) := kT1.cell 1
    have z1 := U1.size
    clear hb CB g0 g1
    go_wp2_with fail
    refine CI.out.mono ?_
    rintro e w2 ⟨lo, hi, tb, sb, wb, A, c, bl, rfl, R, u2, hhi⟩
    have gw3 : w2.cell? ⟨wb, 3, none⟩ = some (.slice A (lookTo y y.2.length).2.2.length c) := R.kw.cell 3
    have RN := Lib.hid R
    clear R g0' g1'
    go_wp2_with fail
    refine bodyPost_ret (v := .tuple #[.slice A (lookTo y y.2.length).2.2.length c, .int .i64 0]) (by simp [results, Tryz.results30, go_sem]) rfl ?_
    exact ToLR.mk HE.out HC.out (RN.out.so.wide good_Fault (lo' := w.heap.size) (by omega) (Nat.le_refl _)) RN.out.nd (U1.trans u2)
theorem cinfo_IX : (Tryz.prog.info? 2).map (fun i => (i.zero, i.size, i.bytes)) = some (some (.int .i64 0), 1, 8) := by kernel_rfl
set_option maxRecDepth 100000 in
set_option maxHeartbeats 8000000 in
theorem ci_Reached (v : Value) (y : TBtree) (w : World) (h : AV shBtree w v y) (hn : shBtree.sz y ≤ 1048576) (htab : Tab w) (hm : MaxL w) : Calls Tryz.prog 25 #[v] w (ToL shI (reachedB y) w) := by
  obtain ⟨i0, hi0, hz0, hz1, hz2⟩ := info_parts cinfo_IX
  have hv := h
  obtain ⟨cs, rfl, h⟩ := h
  obtain ⟨A0, c0, rfl, br, b00⟩ := openBtree h
  clear h
  have hlen := b00.len_le
  have kT := Bk.new w 30 #[.int .i64 y.1, .slice A0 y.2.length c0]
  have uu : Up w (w.alloc (.cells #[.int .i64 y.1, .slice A0 y.2.length c0] 30)) := (Up.refl w).alloc _
  have CB := Lib.hid (ci_SlotsOk _ y _ (hv.up good_Btree uu) hn (tab_up htab uu) (maxL_up hm uu))
  have g0 : World.cell? _ ⟨w.heap.size, 0, none⟩ = some (.int .i64 y.1) := kT.cell 0
  have g1 : World.cell? _ ⟨w.heap.size, 1, none⟩ = some (.slice A0 y.2.length c0) := kT.cell 1
  go_enter Tryz.func25, Tryz.ntmps25
  go_wp2_with fail
  refine CB.out.mono ?_
  rintro e w1 ⟨rfl, u1⟩
  have U1 := uu.trans u1
  have kT1 := kT.up u1
  cases hb : slotsB y.2
  · have HE := Lib.hid (reached_no hb)
    clear hb CB g0 g1
    go_wp2_with fail
    refine bodyPost_ret (v := .slice none 0 0) (by simp [results, Tryz.results25, go_sem]) rfl ?_
    rw [HE.out]
    exact ⟨none, 0, [], rfl, SO.nil _ _ _, List.nodup_nil, U1⟩
  · have HE := Lib.hid (reached_yes hb)
    have CI := Lib.hid (c_inspected _ y w1 (hv.up good_Btree U1) (slotsP_of hb) hn)
    have g0' : w1.cell? ⟨w.heap.size, 0, none⟩ = some (.int .i64 y.1) := kT1.cell 0
    have g1' : w1.cell? ⟨w.heap.size, 1, none⟩ = some (.slice A0 y.2.length c0) := kT1.cell 1
    have z1 := U1.size
    have hl64 := slots_len (slotsP_of hb)
    clear hb CB g0 g1
    go_wp2_with fail
    refine CI.out.mono ?_
    rintro e w2 ⟨lo, hi, tb, sb, wb, A, c, bl, rfl, R, u2, hhi⟩
    have U2 := U1.trans u2
    have kT2 := (kT1.up u2).alloc (.cells #[] 2)
    have so0 : SO shI (w2.alloc (.cells #[] 2)) w2.heap.size (w2.alloc (.cells #[] 2)).heap.size (some ⟨w2.heap.size, 0, none⟩) 0 ([] : List Int) [] := ⟨Nat.le_refl _, Nat.zero_le _, .inl ⟨rfl, rfl, rfl⟩⟩
    have uu0 : Up w2 (w2.alloc (.cells #[] 2)) := (Up.refl w2).alloc _
    have g1'' : (w2.alloc (.cells #[] 2)).cell? ⟨w.heap.size, 1, none⟩ = some (.slice A0 y.2.length c0) := kT2.cell 1
    have RN := Lib.hid R
    have z2 := U2.size
    clear R g0' g1' CI
    go_wp2_with fail
    clear g1''
    go_loopw [16, 4] (fun i o wr => ∃ (k : Nat) (D : Option Addr) (d : Nat) (bl' : List Nat), k ≤ y.2.length ∧ i = .int .i64 k ∧ o = .slice D (reachTo y k).length d ∧ SO shI wr w2.heap.size wr.heap.size D d (reachTo y k) bl' ∧ bl'.Nodup ∧ Up w2 wr) (fun i _ _ => y.2.length - (intOf i).toNat)
    case atStart => exact ⟨0, some ⟨w2.heap.size, 0, none⟩, 0, [], Nat.zero_le _, rfl, rfl, so0, by simp, uu0⟩
    case round =>
      obtain ⟨k, D, d, bl', hk, rfl, rfl, so, nd, hu⟩ := hrel
      have hrl := reachTo_len y k
      by_cases hlt : k < y.2.length
      · obtain ⟨g, off, A2, c2, A3, c3, A4, c4, hA, _, hgl, hc0, hc1, hc2, hc3, hc4, b0, b2, b3, b4, _⟩ := atSlot (b00.up good_Slot (U2.trans hu)) hlt
        subst hA
        have kS := Bk.new wr 116 #[.int .i64 y.2[k].1, .bool y.2[k].2.1, .slice A2 y.2[k].2.2.1.length c2, .slice A3 y.2[k].2.2.2.1.length c3, .slice A4 y.2[k].2.2.2.2.length c4]
        have uS : Up wr (wr.alloc (.cells #[.int .i64 y.2[k].1, .bool y.2[k].2.1, .slice A2 y.2[k].2.2.1.length c2, .slice A3 y.2[k].2.2.2.1.length c3, .slice A4 y.2[k].2.2.2.2.length c4] 116)) := (Up.refl wr).alloc _
        have HYES := Lib.hid (fun h => reachTo_yes (x := y) hlt h)
        have HNO := Lib.hid (fun h => reachTo_no (x := y) hlt h)
        obtain ⟨X, hX⟩ : ∃ X, X = reachTo y k := ⟨_, rfl⟩
        rw [← hX] at so hrl HYES HNO
        rw [← hX]
        clear hX
        have SOH := Lib.hid so
        clear so
        go_upto_region 7 with fail
        generalize (wr.alloc (.cells #[.int .i64 y.2[k].1, .bool y.2[k].2.1, .slice A2 y.2[k].2.2.1.length c2, .slice A3 y.2[k].2.2.2.1.length c3, .slice A4 y.2[k].2.2.2.2.length c4] 116)) = q6 at kS uS ⊢
        clear hc0 hc1 hc2 hc3 hc4 b2 b3 b4
        have R6 := RN.out.up (hu.trans uS)
        have gw1 : q6.cell? ⟨wb, 1, none⟩ = some (.map (some sb)) := R6.kw.cell 1
        have gs0 : q6.cell? ⟨wr.heap.size, 0, none⟩ = some (.int .i64 y.2[k].1) := kS.cell 0
        have hl2 := R6.ks.look (t := 117) Tryz.underlying2 Tryz.underlying117 Tryz.underlying4 (zero_boolX _) (i := y.2[k].1) b0
        have e9 : (lookTo y y.2.length).1 = (lookB y).1 := rfl
        have hl2u := fun t : UpT q6 => (R6.ks.up t.up).look (t := 117) Tryz.underlying2 Tryz.underlying117 Tryz.underlying4 (zero_boolX _) (i := y.2[k].1) b0
        rw [e9] at hl2
        simp only [e9] at hl2u
        have gw1u := fun t : UpT q6 => cell_up t gw1
        have gs0u := fun t : UpT q6 => cell_up t gs0
        clear R6 e9 gw1 gs0 hl2
        cases hc : (lookB y).1.contains y.2[k].1
        · simp only [hc] at hl2u
          have HN := Lib.hid (HNO.out hc)
          clear hc HYES HNO
          refine wp_region_up (by kernel_rfl) (by kernel_rfl) ?_
          repeat (go_big_quiet_step (fail))
          refine wpQuiet_nil ?_
          rintro q7 ⟨⟨q7x, u7⟩, rfl⟩
          clear hl2u gw1u gs0u
          go_wp2_with fail
          go_roundw
          case rel => exact ⟨k + 1, D, d, bl', by omega, by go_num, by rw [HN.out], by rw [HN.out]; exact SOH.out.up good_I (uS.trans u7), nd, hu.trans (uS.trans u7)⟩
          case measure => simp [intOf]; omega
        · simp only [hc] at hl2u
          have HN := Lib.hid (HYES.out hc)
          clear hc HYES HNO
          refine wp_region_up (by kernel_rfl) (by kernel_rfl) ?_
          repeat (go_big_quiet_step (fail))
          refine wpQuiet_nil ?_
          rintro q7 ⟨⟨q7x, u7⟩, rfl⟩
          have uS7 : Up wr q7 := uS.trans u7
          have gs1 : q7.cell? ⟨wr.heap.size, 0, none⟩ = some (.int .i64 y.2[k].1) := gs0u ⟨q7, u7⟩
          clear hl2u gw1u gs0u u7
          obtain ⟨zk, hzk⟩ : ∃ zk, zk = y.2[k].1 := ⟨_, rfl⟩
          rw [← hzk] at gs1 b0 HN
          clear hzk kS uS
          have kq1 := Bk.new q7 2 #[.int .i64 zk]
          have uq1 := (Up.refl q7).alloc (.cells #[.int .i64 zk] 2)
          have ho1 : shI.own (q7.alloc (.cells #[.int .i64 zk] 2)) w2.heap.size (q7.alloc (.cells #[.int .i64 zk] 2)).heap.size [.int .i64 zk] zk [] := ⟨⟨rfl, b0.1, b0.2⟩, rfl⟩
          have hx11 : (X.length + 1) * i0.bytes ≤ 140737488355328 := by rw [hz2]; omega
          have hx21 : X.length + 1 ≤ maxLen := by unfold maxLen; omega
          have hu7 := hu.trans uS7
          have hz7 := hu7.size
          have so7 := SOH.out.up good_I (uS7.trans uq1)
          go_wp2_with (at_builtin
                       refine wpList_app good_I rfl _ _ _ _ 2 rfl i0 _ Tryz.underlying44 hi0 hz0 hz1 (by rfl) (lo := w2.heap.size) (xs := X) (ys := [zk]) (bs := [[]]) (news := [.int .i64 zk]) rfl rfl so7 (by simpa using nd) (Src.box (t := 2) Tryz.underlying44 kq1 (by simp [Value.oneCell']) (by rw [hz1]; rfl)) (Rowed.one good_I ho1) (by have := uq1.size; omega) hx11 hx21 ?_
                       intro D1 d1 bl1 w8 hap1
                       obtain ⟨so1, nd1, mem1, on1⟩ := hap1
                       have hu8 := (hu7.trans uq1).only on1 (fun y hy => (SOH.out.in_ good_I y hy).1))
          go_roundw
          case rel => exact ⟨k + 1, D1, d1, bl1, by omega, by go_num, by rw [HN.out, List.length_append]; rfl, by rw [HN.out]; exact so1, nd1, hu8⟩
          case measure => simp [intOf]; omega
      · obtain rfl : k = y.2.length := by omega
        go_wp2_with fail
        refine bodyPost_ret (v := .slice D (reachTo y y.2.length).length d) (by simp [results, Tryz.results25, go_sem]) rfl ?_
        rw [HE.out]
        exact ⟨D, d, bl', rfl, so.wide good_I (lo' := w.heap.size) z2 (Nat.le_refl _), nd, U2.trans hu⟩
end Go.Proofs.YtpjcgglhlmifdaaGreatDoor
