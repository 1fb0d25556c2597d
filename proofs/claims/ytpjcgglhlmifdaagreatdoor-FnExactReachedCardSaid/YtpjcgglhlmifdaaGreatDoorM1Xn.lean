/-
  FaultsOf and Reached: the reference's.
-/
import Derived.Test.YtpjcgglhlmifdaaGreatDoorM1Xm
import Derived.Test.YtpjcgglhlmifdaaGreatDoorM1Xo
import Derived.Test.YtpjcgglhlmifdaaGreatDoorM1Rl
import Derived.Test.YtpjcgglhlmifdaaGreatDoorM1Qt
namespace Go.Proofs.YtpjcgglhlmifdaaGreatDoor
open Go.RowKit
set_option linter.unusedVariables false
set_option linter.unusedSimpArgs false

theorem cinfo_IY : (Tryz.prog.info? 2).map (fun i => (i.zero, i.size, i.bytes)) = some (some (.int .i64 0), 1, 8) := by kernel_rfl
set_option maxRecDepth 100000 in
set_option maxHeartbeats 8000000 in
theorem c_l00OwnY (xs : List Int) (A : Option Addr) (c : Nat) (w : World) (h : SRW shI w A c xs) (hn : xs.length ≤ 1048576) : Calls Tryz.prog 63 #[.slice A xs.length c] w (ToL shI xs w) := by
  obtain ⟨i0, hi0, hz0, hz1, hz2⟩ := info_parts cinfo_IY
  go_enter Tryz.func63, Tryz.ntmps63
  go_wp2_with (at_builtin; refine wpList_app_new good_I flat_I rfl _ _ _ 2 rfl i0 _ Tryz.underlying44 hi0 hz0 hz1 (by rfl) rfl rfl (h.up good_I ((Up.refl w).alloc _)) (by rw [hz2]; omega) ?_; intro D d bl w1 hso hnd hu)
  go_ret
  exact ⟨D, d, bl, rfl, hso.wide good_I (by simp) (Nat.le_refl _), hnd, ((Up.refl w).alloc _).trans hu⟩
/-- What a look through y leaves. -/
def LookE (y : TBtree) (w : World) (e : Ending) (w' : World) : Prop :=
  ∃ lo wb A0 c0 M cM E cE bm bf, e = .returned (.pointer (some ⟨wb, 0, none⟩)) ∧ VisR w' lo wb A0 c0 y (lookTo y y.2.length) M cM E cE bm bf ∧ Up w w' ∧ w.heap.size ≤ lo
set_option maxRecDepth 100000 in
set_option maxHeartbeats 8000000 in
theorem c_l21Look (v : Value) (y : TBtree) (w : World) (h : AV shBtree w v y) (hs : SlotsP y.2) (hn : shBtree.sz y ≤ 1048576) : Calls Tryz.prog 64 #[v] w (LookE y w) := by
  have hv := h
  obtain ⟨cs, rfl, h⟩ := h
  have ho := openBtree h
  obtain ⟨A0, c0, rfl, br, b00⟩ := ho
  clear h
  have hlen := b00.len_le
  have hl64 := slots_len hs
  obtain ⟨W1, hW1⟩ : ∃ W1, W1 = w.alloc (.cells #[.int .i64 y.1, .slice A0 y.2.length c0] 30) := ⟨_, rfl⟩
  have u1 : Up w W1 := by rw [hW1]; exact (Up.refl w).alloc _
  have kT : Bk W1 w.heap.size 30 #[.int .i64 y.1, .slice A0 y.2.length c0] := by rw [hW1]; exact Bk.new _ _ _
  have z1 : w.heap.size < W1.heap.size := kT.lt
  obtain ⟨W2, hW2⟩ : ∃ W2, W2 = W1.alloc (.cells #[.int .i64 y.1, .slice A0 y.2.length c0, .slice none 0 0, .int .i64 0, .slice none 0 0] 110) := ⟨_, rfl⟩
  have u2 : Up W1 W2 := by rw [hW2]; exact (Up.refl W1).alloc _
  have kw2 : Bk W2 W1.heap.size 110 #[.int .i64 y.1, .slice A0 y.2.length c0, .slice none 0 0, .int .i64 0, .slice none 0 0] := by rw [hW2]; exact Bk.new _ _ _
  have R2 : VisR W2 W1.heap.size W1.heap.size A0 c0 y ([], none, []) none 0 none 0 [] [] :=
    ⟨SR.keep good_Slot (b00.up good_Slot u1) (u2.keeps (Nat.le_refl _)), Nat.le_refl _, kw2, SO.nil _ _ _, SO.nil _ _ _, List.nodup_nil, by simp⟩
  have kT2 := kT.up u2
  have uw2 := u1.trans u2
  have z2 := u2.size
  obtain ⟨nA, hnA, hnA2, hAT⟩ := c_atAny y y.1 hs
  have HNA := Lib.hid hnA
  have HAT := Lib.hid (hAT (.agg #[.int .i64 y.1, .slice A0 y.2.length c0]) W2 (hv.up good_Btree uw2))
  have g0 : W1.cell? ⟨w.heap.size, 0, none⟩ = some (.int .i64 y.1) := kT.cell 0
  have g1 : W1.cell? ⟨w.heap.size, 1, none⟩ = some (.slice A0 y.2.length c0) := kT.cell 1
  have HSL := Lib.hid hs
  clear hs hn hv hnA hAT kw2
  go_enter Tryz.func64, Tryz.ntmps64
  go_upto_region 1 with fail
  rw [← hW1]
  clear hW1
  go_upto_region 2 with fail
  rw [← hW2]
  clear hW2 g0 g1
  have g0 : W2.cell? ⟨w.heap.size, 0, none⟩ = some (.int .i64 y.1) := kT2.cell 0
  have g1 : W2.cell? ⟨w.heap.size, 1, none⟩ = some (.slice A0 y.2.length c0) := kT2.cell 1
  go_wp2_with fail
  refine HAT.out.mono ?_
  rintro e w4 ⟨rfl, u4⟩
  clear HAT g0 g1
  have kT4 := kT2.up u4
  have R4 := Lib.hid (R2.up u4)
  have uw4 := uw2.trans u4
  have g0 : w4.cell? ⟨w.heap.size, 0, none⟩ = some (.int .i64 y.1) := kT4.cell 0
  have HLN := Lib.hid (fun h => (lookTo_zero y).trans (look_none (x := y) h))
  have HLS := Lib.hid (fun p h => (lookTo_zero y).trans (look_some (x := y) (p := p) h))
  go_upto_if 12 with fail
  go_cut [] (fun wx => Hid (VisT W1.heap.size W1.heap.size A0 c0 y (lookTo y 0) [] w4 wx))
  case first =>
    cases hp : pgAt y y.1 with
    | none =>
      have hneg := HNA.out.2 hp
      have HE := Lib.hid (HLN.out hp)
      have CR := Lib.hid (c_tell 1 y.1 (by decide) br R4.out (by show (0 : Nat) ≤ 1000; omega))
      clear hp
      go_wp2_with fail
      refine CR.out.mono ?_
      rintro e w5 ⟨rfl, T5⟩
      go_wp2_with fail
      go_meet
      exact Lib.hid (by rw [HE.out]; exact T5)
    | some p =>
      have hneg : ¬ nA < 0 := fun h => by have := HNA.out.1 h; rw [hp] at this; cases this
      have HE := Lib.hid (HLS.out p hp)
      have CI := Lib.hid (c_vis HSL.out br 64 y.1 1 1 ⟨#[]⟩ ⟨#[]⟩ p ([], none, []) none 0 none 0 [] [] w4 br (Lib.hid rfl) hp R4.out ⟨metOk_nil y, fun d h => (by cases h), Nat.le_refl _⟩ (by simpa using hl64) (Nat.le_refl _) (by omega))
      clear hp
      go_wp2_with fail
      refine CI.out.mono ?_
      rintro e w5 ⟨rfl, T5⟩
      go_wp2_with fail
      go_meet
      exact Lib.hid (by rw [HE.out]; exact T5)
  clear HLN HLS g0
  have T4 := hcut
  obtain ⟨q5, hq5⟩ : ∃ q5, q5 = wc := ⟨_, rfl⟩
  subst hq5
  clear hcut
  go_wp2_with fail
  go_loopw [4] (fun i wr => ∃ k : Nat, k ≤ y.2.length ∧ i = .int .i64 k ∧ Hid (VisT W1.heap.size W1.heap.size A0 c0 y (lookTo y k) [] w4 wr)) (fun i _ => y.2.length - (intOf i).toNat)
  case atStart => exact ⟨0, Nat.zero_le _, rfl, T4⟩
  case round =>
    obtain ⟨k, hk, rfl, HT⟩ := hrel
    obtain ⟨Mt, cMt, Et, cEt, bmt, bft, Rt, ot, mt⟩ := HT.out
    have uwr : Up w wr := uw4.only ot (fun y hy => by
      rcases List.mem_cons.1 hy with h | h
      · omega
      · cases h)
    have kTr := kT4.only ot (by simp; omega)
    have g1 : wr.cell? ⟨w.heap.size, 1, none⟩ = some (.slice A0 y.2.length c0) := kTr.cell 1
    by_cases hlt : k < y.2.length
    · obtain ⟨g, off, A2, c2, A3, c3, A4, c4, hA, _, hgl, hc0, hc1, hc2, hc3, hc4, b0, b2, b3, b4, _⟩ := atSlot (b00.up good_Slot uwr) hlt
      subst hA
      clear hc1 hc2 hc3 hc4 b2 b3 b4
      have HYES := Lib.hid (fun h => lookTo_yes (x := y) hlt h)
      have HNO := Lib.hid (fun h => lookTo_no (x := y) hlt h)
      have hl7 : (lookTo y k).2.2.length ≤ 1000 := by have := lookTo_len HSL.out k; omega
      have e9 : (lookTo y k).1 = (lookB y).1 := rfl
      have kwr := Rt.kw
      have smr := SR.of_own good_I Rt.sm
      have CH := fun W (u : Up wr W) => c_l00Has (putsI [] (lookTo y k).1) Mt cMt y.2[k].1 W (smr.up good_I u)
      rw [putsI_contains, e9] at CH
      rw [e9] at kwr
      have hlw : wr.cell? ⟨W1.heap.size, 2, none⟩ = some (.slice Mt (putsI [] (lookB y).1).length cMt) := kwr.cell 2
      obtain ⟨N, hN⟩ : ∃ N, N = (putsI [] (lookB y).1).length := ⟨_, rfl⟩
      rw [← hN] at CH hlw
      have OT := Lib.hid ot
      have MT := Lib.hid mt
      have RT := Lib.hid Rt
      have HCH := Lib.hid CH
      obtain ⟨zk, hzk⟩ : ∃ zk, zk = y.2[k].1 := ⟨_, rfl⟩
      rw [← hzk] at hc0 HCH HYES HNO b0
      clear Rt ot mt CH kwr smr hN e9 hzk
      have hk0i : (0 : Int) ≤ (k : Int) := by omega
      have hkii : (k : Int) < (y.2.length : Int) := by omega
      go_upto_region 8 with fail
      go_cut [39] (fun t wx => t = .bool (!(lookB y).1.contains zk) ∧ Up wr wx)
      case first =>
        have t0 := fun t : UpT wr => cell_up t hlw
        have t1 := fun t : UpT wr => cell_up t g1
        have t2 := fun t : UpT wr => cell_up t hc0
        clear hlw g1 hc0
        refine wp_region_up (by kernel_rfl) (by kernel_rfl) ?_
        repeat (go_big_quiet_step ((first | (go_at_call 107; exact up_same (HCH.out _ (UpT.up _)) (UpT.up _)))))
        refine wpQuiet_nil ?_
        rintro _ ⟨⟨w1, u1⟩, rfl⟩
        go_wp2_with fail
        go_meet
        exact ⟨by first | rfl | simp, u1⟩
      obtain ⟨rfl, u7⟩ := hcut
      obtain ⟨Q7, hQ7⟩ : ∃ Q7, Q7 = wc := ⟨_, rfl⟩
      subst hQ7
      have g1' : Q7.cell? ⟨w.heap.size, 1, none⟩ = some (.slice (some ⟨g, off, none⟩) y.2.length c0) := (u7.cell (cell_lt g1)).trans g1
      have hc0' := (u7.cell (cell_lt hc0)).trans hc0
      have R7 := RT.out.up u7
      clear g1 hc0 hlw HCH
      cases hc : (lookB y).1.contains zk
      · have HE := Lib.hid (HNO.out hc)
        have CR := Lib.hid (c_tell 7 zk (by decide) b0 R7 hl7)
        clear hc HYES HNO R7
        go_wp2_with fail
        refine CR.out.mono ?_
        rintro e w8 ⟨rfl, T8⟩
        go_wp2_with fail
        go_roundw
        case rel => exact ⟨k + 1, by omega, by go_num, Lib.hid (by rw [HE.out]; exact VisT.then OT.out MT.out (T8.from u7))⟩
        case measure => simp [intOf]; omega
      · have HE := Lib.hid (HYES.out hc)
        clear hc HYES HNO R7
        go_wp2_with fail
        go_roundw
        case rel => exact ⟨k + 1, by omega, by go_num, Lib.hid (by rw [HE.out]; exact HT.out.up u7)⟩
        case measure => simp [intOf]; omega
    · obtain rfl : k = y.2.length := by omega
      have RT := Lib.hid Rt
      clear Rt ot mt
      go_wp2_with fail
      refine bodyPost_ret (v := .pointer (some ⟨W1.heap.size, 0, none⟩)) (by simp [results, Tryz.results64, go_sem]) rfl ?_
      exact ⟨_, _, A0, c0, Mt, cMt, Et, cEt, bmt, bft, rfl, RT.out, uwr, by omega⟩
set_option maxRecDepth 100000 in
set_option maxHeartbeats 4000000 in
theorem cs_FaultsOf (v : Value) (y : TBtree) (w : World) (h : AV shBtree w v y) (hn : shBtree.sz y ≤ 1048576) : Calls Tryz.prog 29 #[v] w (RpLR shFault (faultsB y) (faultC y) w) := by
  have hv := h
  obtain ⟨cs, rfl, h⟩ := h
  obtain ⟨A0, c0, rfl, br, b00⟩ := openBtree h
  clear h
  have kT := Bk.new w 30 #[.int .i64 y.1, .slice A0 y.2.length c0]
  have uu : Up w (w.alloc (.cells #[.int .i64 y.1, .slice A0 y.2.length c0] 30)) := (Up.refl w).alloc _
  have CB := Lib.hid (cs_SlotsOk _ y _ (hv.up good_Btree uu) hn)
  have g0 : World.cell? _ ⟨w.heap.size, 0, none⟩ = some (.int .i64 y.1) := kT.cell 0
  have g1 : World.cell? _ ⟨w.heap.size, 1, none⟩ = some (.slice A0 y.2.length c0) := kT.cell 1
  go_enter Tryz.func29, Tryz.ntmps29
  go_wp2_with fail
  refine CB.out.mono ?_
  rintro e w1 ⟨rfl, u1⟩
  have U1 := uu.trans u1
  have kT1 := kT.up u1
  cases hb : slotsB y.2
  · have HE := Lib.hid (faults_no hb)
    have HC := Lib.hid (faultC_no hb)
    clear hb CB g0 g1
    go_wp2_with fail
    refine bodyPost_ret (v := .tuple #[.slice none 0 0, .int .i64 1]) (by simp [results, Tryz.results29, go_sem]) rfl ?_
    exact RpLR.mk (ys := []) HE.out HC.out (SR.nil _ _ _) U1
  · have HE := Lib.hid (faults_yes hb)
    have HC := Lib.hid (faultC_yes hb)
    have CI := Lib.hid (c_l21Look _ y w1 (hv.up good_Btree U1) (slotsP_of hb) hn)
    have g0' : w1.cell? ⟨w.heap.size, 0, none⟩ = some (.int .i64 y.1) := kT1.cell 0
    have g1' : w1.cell? ⟨w.heap.size, 1, none⟩ = some (.slice A0 y.2.length c0) := kT1.cell 1
    clear hb CB g0 g1
    go_wp2_with fail
    refine CI.out.mono ?_
    rintro e w2 ⟨lo, wb, A9, c9, M, cM, E, cE, bm, bf, rfl, R, u2, hlo⟩
    have gw4 : w2.cell? ⟨wb, 4, none⟩ = some (.slice E (lookTo y y.2.length).2.2.length cE) := R.kw.cell 4
    have RN := Lib.hid R
    clear R g0' g1'
    go_wp2_with fail
    refine bodyPost_ret (v := .tuple #[.slice E (lookTo y y.2.length).2.2.length cE, .int .i64 0]) (by simp [results, Tryz.results29, go_sem]) rfl ?_
    exact RpLR.mk HE.out HC.out (SR.of_own good_Fault RN.out.so) (U1.trans u2)
set_option maxRecDepth 100000 in
set_option maxHeartbeats 4000000 in
theorem cs_Reached (v : Value) (y : TBtree) (w : World) (h : AV shBtree w v y) (hn : shBtree.sz y ≤ 1048576) : Calls Tryz.prog 24 #[v] w (RpL shI (reachedB y) w) := by
  have hv := h
  obtain ⟨cs, rfl, h⟩ := h
  obtain ⟨A0, c0, rfl, br, b00⟩ := openBtree h
  clear h
  have kT := Bk.new w 30 #[.int .i64 y.1, .slice A0 y.2.length c0]
  have uu : Up w (w.alloc (.cells #[.int .i64 y.1, .slice A0 y.2.length c0] 30)) := (Up.refl w).alloc _
  have CB := Lib.hid (cs_SlotsOk _ y _ (hv.up good_Btree uu) hn)
  have g0 : World.cell? _ ⟨w.heap.size, 0, none⟩ = some (.int .i64 y.1) := kT.cell 0
  have g1 : World.cell? _ ⟨w.heap.size, 1, none⟩ = some (.slice A0 y.2.length c0) := kT.cell 1
  go_enter Tryz.func24, Tryz.ntmps24
  go_wp2_with fail
  refine CB.out.mono ?_
  rintro e w1 ⟨rfl, u1⟩
  have U1 := uu.trans u1
  have kT1 := kT.up u1
  cases hb : slotsB y.2
  · have HE := Lib.hid (reached_no hb)
    clear hb CB g0 g1
    go_wp2_with fail
    refine bodyPost_ret (v := .slice (some ⟨w1.heap.size, 0, none⟩) 0 0) (by simp [results, Tryz.results24, go_sem]) rfl ?_
    rw [HE.out]
    exact ⟨some ⟨w1.heap.size, 0, none⟩, 0, rfl, ⟨Nat.le_refl _, Nat.zero_le _, fun h => absurd h (by simp)⟩, U1.alloc _⟩
  · have hsP := slotsP_of hb
    have HE := Lib.hid (show reachedB y = putsI [] (lookB y).1 by unfold reachedB; rw [if_pos hb]; exact reached_eq hsP (look_faults hsP).1)
    have CI := Lib.hid (c_l21Look _ y w1 (hv.up good_Btree U1) hsP hn)
    have hpl := puts_len hsP (look_faults hsP).1
    have g0' : w1.cell? ⟨w.heap.size, 0, none⟩ = some (.int .i64 y.1) := kT1.cell 0
    have g1' : w1.cell? ⟨w.heap.size, 1, none⟩ = some (.slice A0 y.2.length c0) := kT1.cell 1
    clear hb CB g0 g1 hsP
    go_wp2_with fail
    refine CI.out.mono ?_
    rintro e w2 ⟨lo, wb, A9, c9, M, cM, E, cE, bm, bf, rfl, R, u2, hlo⟩
    have e9 : (lookTo y y.2.length).1 = (lookB y).1 := rfl
    have sm := SR.of_own good_I R.sm
    have kw := R.kw
    rw [e9] at sm kw
    obtain ⟨L, hL⟩ : ∃ L, L = putsI [] (lookB y).1 := ⟨_, rfl⟩
    rw [← hL] at sm kw HE hpl
    have gw2 : w2.cell? ⟨wb, 2, none⟩ = some (.slice M L.length cM) := kw.cell 2
    have CO := Lib.hid (c_l00OwnY L M cM w2 sm (by omega))
    clear R g0' g1' kw sm e9 hL
    go_wp2_with fail
    refine CO.out.mono ?_
    rintro e w3 ⟨D, d, bl, rfl, so, nd, u3⟩
    go_wp2_with fail
    refine bodyPost_ret (v := .slice D L.length d) (by simp [results, Tryz.results24, go_sem]) rfl ?_
    rw [HE.out]
    exact ⟨D, d, rfl, SR.of_own good_I so, (U1.trans u2).trans u3⟩
end Go.Proofs.YtpjcgglhlmifdaaGreatDoor
