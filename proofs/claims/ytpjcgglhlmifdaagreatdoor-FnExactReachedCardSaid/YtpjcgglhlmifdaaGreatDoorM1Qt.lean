/-
  SlotsOk: the reference's.
-/
import Derived.Test.YtpjcgglhlmifdaaGreatDoorM1Qs
import Derived.Test.YtpjcgglhlmifdaaGreatDoorM1J
import Derived.Test.YtpjcgglhlmifdaaGreatDoorM1Le
namespace Go.Proofs.YtpjcgglhlmifdaaGreatDoor
open Go.RowKit
set_option linter.unusedVariables false
set_option linter.unusedSimpArgs false

set_option maxRecDepth 100000 in
set_option maxHeartbeats 16000000 in
theorem c_specSlotsOk (v : Value) (y : TBtree) (w : World) (h : AV shBtree w v y) (hn : shBtree.sz y ≤ 1048576) :
    Calls Tryz.prog 45 #[v] w (RetV (.bool (slotsB y.2)) w) := by
  obtain ⟨cs, rfl, h⟩ := h
  obtain ⟨r, x⟩ := y
  have ho := openBtree h
  dsimp only at ho
  obtain ⟨A0, c0, rfl, br, b00⟩ := ho
  clear h
  have hlen := b00.len_le
  have hnx : (shL shSlot).sz x ≤ 1048576 := by
    have e : shBtree.sz (r, x) = 0 + (shL shSlot).sz x := rfl
    omega
  have HSZ := Lib.hid (fun (i : Nat) (hi : i < x.length) => sz_le shSlot x hi hnx)
  clear hn hnx
  have HF := Lib.hid (fun (hh : ¬ SlotsP x) => slotsB_f hh)
  have HT := Lib.hid (fun (hh : SlotsP x) => slotsB_t hh)
  have HLN := Lib.hid (fun (hh : SlotsP x) => slots_len hh)
  show Calls _ _ _ _ (RetV (.bool (slotsB x)) w)
  generalize slotsB x = R at *
  have kT0 := Bk.new w 30 #[.int .i64 r, .slice A0 x.length c0]
  have uu0 : Up w (w.alloc (.cells #[.int .i64 r, .slice A0 x.length c0] 30)) := (Up.refl w).alloc _
  have gT : (w.alloc (.cells #[.int .i64 r, .slice A0 x.length c0] 30)).cell? ⟨w.heap.size, 1, none⟩ = some (.slice A0 x.length c0) := kT0.cell 1
  go_enter Tryz.func45, Tryz.ntmps45
  go_wp2_with fail
  clear gT
  go_loopw [3] (fun i wr => ∃ k : Nat, k ≤ x.length ∧ k ≤ 65 ∧ i = .int .i64 k ∧ Hid (SlotsTo x k) ∧ Up (w.alloc (.cells #[.int .i64 r, .slice A0 x.length c0] 30)) wr) (fun i _ => x.length - (intOf i).toNat)
  case atStart => exact ⟨0, Nat.zero_le _, Nat.zero_le _, rfl, Lib.hid (fun i h hi => absurd hi (by omega)), Up.refl _⟩
  case round =>
    obtain ⟨k, hk, hk65, rfl, HA, hu⟩ := hrel
    have kT := kT0.up hu
    have gT : wr.cell? ⟨w.heap.size, 1, none⟩ = some (.slice A0 x.length c0) := kT.cell 1
    by_cases hlt : k < x.length ∧ k ≤ 64
    · obtain ⟨hlt, hk64⟩ := hlt
      have hk6i : (k : Int) ≤ 64 := by omega
      obtain ⟨g, off, A2, c2, A3, c3, A4, c4, hA, _, hgl, hc0, hc1, hc2, hc3, hc4, b0, b2, b3, b4, _⟩ := atSlot (b00.up good_Slot (uu0.trans hu)) hlt
      have pv : ∀ W, Up wr W → AV shPage W (.agg #[.bool x[k].2.1, .slice A2 x[k].2.2.1.length c2, .slice A3 x[k].2.2.2.1.length c3, .slice A4 x[k].2.2.2.2.length c4]) x[k].2 := fun W hW => ⟨_, rfl, mkPage (x := x[k].2) (b2.up good_S hW) (b3.up good_S hW) (b4.up good_I hW)⟩
      have cp := fun W (hW : Up wr W) => c_specPageOk (.agg #[.bool x[k].2.1, .slice A2 x[k].2.2.1.length c2, .slice A3 x[k].2.2.2.1.length c3, .slice A4 x[k].2.2.2.2.length c4]) x[k].2 W (pv W hW) (page_sz (slot_sz (HSZ.out k hlt)))
      have kb := Bk.new wr 116 #[.int .i64 x[k].1, .bool x[k].2.1, .slice A2 x[k].2.2.1.length c2, .slice A3 x[k].2.2.2.1.length c3, .slice A4 x[k].2.2.2.2.length c4]
      have uA : Up wr (wr.alloc (.cells #[.int .i64 x[k].1, .bool x[k].2.1, .slice A2 x[k].2.2.1.length c2, .slice A3 x[k].2.2.2.1.length c3, .slice A4 x[k].2.2.2.2.length c4] 116)) := (Up.refl wr).alloc _
      subst hA
      cases hin : inB x[k].1 1 64
      · have HE := Lib.hid (HF.out fun hh => by have := (hh k hlt).1; rw [hin] at this; cases this)
        have CP := Lib.hid cp
        clear cp pv HF HT HLN
        go_wp2_with fail
        generalize hW : (wr.alloc (.cells #[.int .i64 x[k].1, .bool x[k].2.1, .slice A2 x[k].2.2.1.length c2, .slice A3 x[k].2.2.2.1.length c3, .slice A4 x[k].2.2.2.2.length c4] 116)) = W0 at *
        have t0 := fun t : UpT W0 => cell_up t (kb.cell 0 : W0.cell? ⟨wr.heap.size, 0, none⟩ = some (.int .i64 x[k].1))
        have t1 := fun t : UpT W0 => cell_up t (kb.cell 1 : W0.cell? ⟨wr.heap.size, 1, none⟩ = some (.bool x[k].2.1))
        have t2 := fun t : UpT W0 => cell_up t (kb.cell 2 : W0.cell? ⟨wr.heap.size, 2, none⟩ = some (.slice A2 x[k].2.2.1.length c2))
        have t3 := fun t : UpT W0 => cell_up t (kb.cell 3 : W0.cell? ⟨wr.heap.size, 3, none⟩ = some (.slice A3 x[k].2.2.2.1.length c3))
        have t4 := fun t : UpT W0 => cell_up t (kb.cell 4 : W0.cell? ⟨wr.heap.size, 4, none⟩ = some (.slice A4 x[k].2.2.2.2.length c4))
        have t5 := fun t : UpT W0 => cell_up t ((kT.up uA).cell 1 : W0.cell? ⟨w.heap.size, 1, none⟩ = some (.slice (some ⟨g, off, none⟩) x.length c0))
        clear hW
        refine wp_region_up (by kernel_rfl) (by kernel_rfl) ?_
        repeat (go_big_quiet_step ((first | (go_at_call 88; exact up_bools (in_any _ _ _ _) hin (UpT.up _)) | (go_at_call 79; exact up_call (CP.out _ (uA.trans (UpT.up _))) (UpT.up _)))))
        refine wpQuiet_nil ?_
        rintro _ ⟨⟨w1, u1⟩, rfl⟩
        go_wp2_with fail
        refine bodyPost_ret (v := .bool false) (by simp [results, Tryz.results45, go_sem]) rfl ?_
        exact ⟨by rw [HE.out], ((uu0.trans hu).trans uA).trans u1⟩
      · by_cases hk0 : k = 0
        · subst hk0
          have gt0 : ¬ (0 : Int) < ((0 : Nat) : Int) := by omega
          simp only [Nat.zero_mul, Nat.add_zero] at hc0 hc1 hc2 hc3 hc4
          cases hpg : pageB x[0].2
          · have HE := Lib.hid (HF.out fun hh => by have := (hh (0) hlt).2.1; rw [hpg] at this; cases this)
            rw [hpg] at cp
            have CP := Lib.hid cp
            clear cp pv HF HT HLN hpg
            go_wp2_with fail
            generalize hW : (wr.alloc (.cells #[.int .i64 x[0].1, .bool x[0].2.1, .slice A2 x[0].2.2.1.length c2, .slice A3 x[0].2.2.2.1.length c3, .slice A4 x[0].2.2.2.2.length c4] 116)) = W0 at *
            have t0 := fun t : UpT W0 => cell_up t (kb.cell 0 : W0.cell? ⟨wr.heap.size, 0, none⟩ = some (.int .i64 x[0].1))
            have t1 := fun t : UpT W0 => cell_up t (kb.cell 1 : W0.cell? ⟨wr.heap.size, 1, none⟩ = some (.bool x[0].2.1))
            have t2 := fun t : UpT W0 => cell_up t (kb.cell 2 : W0.cell? ⟨wr.heap.size, 2, none⟩ = some (.slice A2 x[0].2.2.1.length c2))
            have t3 := fun t : UpT W0 => cell_up t (kb.cell 3 : W0.cell? ⟨wr.heap.size, 3, none⟩ = some (.slice A3 x[0].2.2.2.1.length c3))
            have t4 := fun t : UpT W0 => cell_up t (kb.cell 4 : W0.cell? ⟨wr.heap.size, 4, none⟩ = some (.slice A4 x[0].2.2.2.2.length c4))
            have t5 := fun t : UpT W0 => cell_up t ((kT.up uA).cell 1 : W0.cell? ⟨w.heap.size, 1, none⟩ = some (.slice (some ⟨g, off, none⟩) x.length c0))
            clear hW
            refine wp_region_up (by kernel_rfl) (by kernel_rfl) ?_
            repeat (go_big_quiet_step ((first | (go_at_call 88; exact up_bools (in_any _ _ _ _) hin (UpT.up _)) | (go_at_call 79; exact up_call (CP.out _ (uA.trans (UpT.up _))) (UpT.up _)))))
            refine wpQuiet_nil ?_
            rintro _ ⟨⟨w1, u1⟩, rfl⟩
            go_wp2_with fail
            refine bodyPost_ret (v := .bool false) (by simp [results, Tryz.results45, go_sem]) rfl ?_
            exact ⟨by rw [HE.out], ((uu0.trans hu).trans uA).trans u1⟩
          · have HN := Lib.hid (slotsTo_one hlt hin hpg)
            rw [hpg] at cp
            have CP := Lib.hid cp
            clear cp pv HF HT HLN hpg
            go_wp2_with fail
            generalize hW : (wr.alloc (.cells #[.int .i64 x[0].1, .bool x[0].2.1, .slice A2 x[0].2.2.1.length c2, .slice A3 x[0].2.2.2.1.length c3, .slice A4 x[0].2.2.2.2.length c4] 116)) = W0 at *
            have t0 := fun t : UpT W0 => cell_up t (kb.cell 0 : W0.cell? ⟨wr.heap.size, 0, none⟩ = some (.int .i64 x[0].1))
            have t1 := fun t : UpT W0 => cell_up t (kb.cell 1 : W0.cell? ⟨wr.heap.size, 1, none⟩ = some (.bool x[0].2.1))
            have t2 := fun t : UpT W0 => cell_up t (kb.cell 2 : W0.cell? ⟨wr.heap.size, 2, none⟩ = some (.slice A2 x[0].2.2.1.length c2))
            have t3 := fun t : UpT W0 => cell_up t (kb.cell 3 : W0.cell? ⟨wr.heap.size, 3, none⟩ = some (.slice A3 x[0].2.2.2.1.length c3))
            have t4 := fun t : UpT W0 => cell_up t (kb.cell 4 : W0.cell? ⟨wr.heap.size, 4, none⟩ = some (.slice A4 x[0].2.2.2.2.length c4))
            have t5 := fun t : UpT W0 => cell_up t ((kT.up uA).cell 1 : W0.cell? ⟨w.heap.size, 1, none⟩ = some (.slice (some ⟨g, off, none⟩) x.length c0))
            clear hW
            refine wp_region_up (by kernel_rfl) (by kernel_rfl) ?_
            repeat (go_big_quiet_step ((first | (go_at_call 88; exact up_bools (in_any _ _ _ _) hin (UpT.up _)) | (go_at_call 79; exact up_call (CP.out _ (uA.trans (UpT.up _))) (UpT.up _)))))
            refine wpQuiet_nil ?_
            rintro _ ⟨⟨w1, u1⟩, rfl⟩
            go_wp2_with fail
            go_roundw
            case rel => exact ⟨0 + 1, by omega, by omega, by go_num, HN, (hu.trans uA).trans u1⟩
            case measure => simp [intOf]; omega
        · obtain ⟨p, rfl⟩ : ∃ p, k = p + 1 := ⟨k - 1, by omega⟩
          have hlp : p < x.length := by omega
          obtain ⟨g', off', A5, c5, A6, c6, A7, c7, hA', _, _, hp0, _, _, _, _, d0, _, _, _, _⟩ := atSlot (b00.up good_Slot (uu0.trans hu)) hlp
          simp only [Option.some.injEq, Addr.mk.injEq, and_true] at hA'
          obtain ⟨rfl, rfl⟩ := hA'
          have hsub : IntKind.i64.wrap ((p : Int) + 1 - 1) = (p : Int) := by rw [IntWalk.i64_in _ (by omega)]; omega
          have gt0 : (0 : Int) < (p : Int) + 1 := by omega
          by_cases hL : x[p].1 < x[p + 1].1
          · have hq : decide (x[p + 1].1 ≤ x[p].1) = false := decide_eq_false (by omega)
            cases hpg : pageB x[p + 1].2
            · have HE := Lib.hid (HF.out fun hh => by have := (hh (p + 1) hlt).2.1; rw [hpg] at this; cases this)
              rw [hpg] at cp
              have CP := Lib.hid cp
              clear cp pv HF HT HLN hpg
              go_wp2_with fail
              generalize hW : (wr.alloc (.cells #[.int .i64 x[p + 1].1, .bool x[p + 1].2.1, .slice A2 x[p + 1].2.2.1.length c2, .slice A3 x[p + 1].2.2.2.1.length c3, .slice A4 x[p + 1].2.2.2.2.length c4] 116)) = W0 at *
              have t0 := fun t : UpT W0 => cell_up t (kb.cell 0 : W0.cell? ⟨wr.heap.size, 0, none⟩ = some (.int .i64 x[p + 1].1))
              have t1 := fun t : UpT W0 => cell_up t (kb.cell 1 : W0.cell? ⟨wr.heap.size, 1, none⟩ = some (.bool x[p + 1].2.1))
              have t2 := fun t : UpT W0 => cell_up t (kb.cell 2 : W0.cell? ⟨wr.heap.size, 2, none⟩ = some (.slice A2 x[p + 1].2.2.1.length c2))
              have t3 := fun t : UpT W0 => cell_up t (kb.cell 3 : W0.cell? ⟨wr.heap.size, 3, none⟩ = some (.slice A3 x[p + 1].2.2.2.1.length c3))
              have t4 := fun t : UpT W0 => cell_up t (kb.cell 4 : W0.cell? ⟨wr.heap.size, 4, none⟩ = some (.slice A4 x[p + 1].2.2.2.2.length c4))
              have t5 := fun t : UpT W0 => cell_up t ((kT.up uA).cell 1 : W0.cell? ⟨w.heap.size, 1, none⟩ = some (.slice (some ⟨g, off, none⟩) x.length c0))
              have t8 := fun t : UpT W0 => cell_up t ((uA.cell (cell_lt hp0)).trans hp0)
              clear hW
              refine wp_region_up (by kernel_rfl) (by kernel_rfl) ?_
              repeat (go_big_quiet_step ((first | (go_at_call 88; exact up_bools (in_any _ _ _ _) hin (UpT.up _)) | (go_at_call 79; exact up_call (CP.out _ (uA.trans (UpT.up _))) (UpT.up _)))))
              refine wpQuiet_nil ?_
              rintro _ ⟨⟨w1, u1⟩, rfl⟩
              go_wp2_with fail
              refine bodyPost_ret (v := .bool false) (by simp [results, Tryz.results45, go_sem]) rfl ?_
              exact ⟨by rw [HE.out], ((uu0.trans hu).trans uA).trans u1⟩
            · have HN := Lib.hid (slotsTo_succ hlt HA.out hin hpg hL)
              rw [hpg] at cp
              have CP := Lib.hid cp
              clear cp pv HF HT HLN hpg
              go_wp2_with fail
              generalize hW : (wr.alloc (.cells #[.int .i64 x[p + 1].1, .bool x[p + 1].2.1, .slice A2 x[p + 1].2.2.1.length c2, .slice A3 x[p + 1].2.2.2.1.length c3, .slice A4 x[p + 1].2.2.2.2.length c4] 116)) = W0 at *
              have t0 := fun t : UpT W0 => cell_up t (kb.cell 0 : W0.cell? ⟨wr.heap.size, 0, none⟩ = some (.int .i64 x[p + 1].1))
              have t1 := fun t : UpT W0 => cell_up t (kb.cell 1 : W0.cell? ⟨wr.heap.size, 1, none⟩ = some (.bool x[p + 1].2.1))
              have t2 := fun t : UpT W0 => cell_up t (kb.cell 2 : W0.cell? ⟨wr.heap.size, 2, none⟩ = some (.slice A2 x[p + 1].2.2.1.length c2))
              have t3 := fun t : UpT W0 => cell_up t (kb.cell 3 : W0.cell? ⟨wr.heap.size, 3, none⟩ = some (.slice A3 x[p + 1].2.2.2.1.length c3))
              have t4 := fun t : UpT W0 => cell_up t (kb.cell 4 : W0.cell? ⟨wr.heap.size, 4, none⟩ = some (.slice A4 x[p + 1].2.2.2.2.length c4))
              have t5 := fun t : UpT W0 => cell_up t ((kT.up uA).cell 1 : W0.cell? ⟨w.heap.size, 1, none⟩ = some (.slice (some ⟨g, off, none⟩) x.length c0))
              have t8 := fun t : UpT W0 => cell_up t ((uA.cell (cell_lt hp0)).trans hp0)
              clear hW
              refine wp_region_up (by kernel_rfl) (by kernel_rfl) ?_
              repeat (go_big_quiet_step ((first | (go_at_call 88; exact up_bools (in_any _ _ _ _) hin (UpT.up _)) | (go_at_call 79; exact up_call (CP.out _ (uA.trans (UpT.up _))) (UpT.up _)))))
              refine wpQuiet_nil ?_
              rintro _ ⟨⟨w1, u1⟩, rfl⟩
              go_wp2_with fail
              go_roundw
              case rel => exact ⟨p + 1 + 1, by omega, by omega, by go_num, HN, (hu.trans uA).trans u1⟩
              case measure => simp [intOf]; omega
          · have HE := Lib.hid (HF.out fun hh => by have := (hh (p + 1) hlt).2.2 (by omega); simp only [Nat.add_sub_cancel] at this; omega)
            have hq : decide (x[p + 1].1 ≤ x[p].1) = true := decide_eq_true (by omega)
            have CP := Lib.hid cp
            clear cp pv HF HT HLN
            go_wp2_with fail
            generalize hW : (wr.alloc (.cells #[.int .i64 x[p + 1].1, .bool x[p + 1].2.1, .slice A2 x[p + 1].2.2.1.length c2, .slice A3 x[p + 1].2.2.2.1.length c3, .slice A4 x[p + 1].2.2.2.2.length c4] 116)) = W0 at *
            have t0 := fun t : UpT W0 => cell_up t (kb.cell 0 : W0.cell? ⟨wr.heap.size, 0, none⟩ = some (.int .i64 x[p + 1].1))
            have t1 := fun t : UpT W0 => cell_up t (kb.cell 1 : W0.cell? ⟨wr.heap.size, 1, none⟩ = some (.bool x[p + 1].2.1))
            have t2 := fun t : UpT W0 => cell_up t (kb.cell 2 : W0.cell? ⟨wr.heap.size, 2, none⟩ = some (.slice A2 x[p + 1].2.2.1.length c2))
            have t3 := fun t : UpT W0 => cell_up t (kb.cell 3 : W0.cell? ⟨wr.heap.size, 3, none⟩ = some (.slice A3 x[p + 1].2.2.2.1.length c3))
            have t4 := fun t : UpT W0 => cell_up t (kb.cell 4 : W0.cell? ⟨wr.heap.size, 4, none⟩ = some (.slice A4 x[p + 1].2.2.2.2.length c4))
            have t5 := fun t : UpT W0 => cell_up t ((kT.up uA).cell 1 : W0.cell? ⟨w.heap.size, 1, none⟩ = some (.slice (some ⟨g, off, none⟩) x.length c0))
            have t8 := fun t : UpT W0 => cell_up t ((uA.cell (cell_lt hp0)).trans hp0)
            clear hW
            refine wp_region_up (by kernel_rfl) (by kernel_rfl) ?_
            repeat (go_big_quiet_step ((first | (go_at_call 88; exact up_bools (in_any _ _ _ _) hin (UpT.up _)) | (go_at_call 79; exact up_call (CP.out _ (uA.trans (UpT.up _))) (UpT.up _)))))
            refine wpQuiet_nil ?_
            rintro _ ⟨⟨w1, u1⟩, rfl⟩
            go_wp2_with fail
            refine bodyPost_ret (v := .bool false) (by simp [results, Tryz.results45, go_sem]) rfl ?_
            exact ⟨by rw [HE.out], ((uu0.trans hu).trans uA).trans u1⟩
    · by_cases h64 : x.length ≤ 64
      · have hnl : ¬ k < x.length := fun hh => hlt ⟨hh, by omega⟩
        have HE := Lib.hid (HT.out (fun i h => HA.out i h (by omega)))
        have h64i : (x.length : Int) ≤ 64 := by omega
        have hki : ¬ (k : Int) < (x.length : Int) := by omega
        clear HF HT HLN hlt
        go_wp2_with fail
        refine bodyPost_ret (v := .bool true) (by simp [results, Tryz.results45, go_sem]) rfl ?_
        exact ⟨by rw [HE.out], uu0.trans hu⟩
      · have HE := Lib.hid (HF.out (fun hh => h64 (HLN.out hh)))
        have h64i : ¬ (x.length : Int) ≤ 64 := by omega
        have hki : ¬ (k : Int) ≤ 64 := by
          intro hh
          exact hlt ⟨by omega, by omega⟩
        clear HF HT HLN hlt
        by_cases hd : (k : Int) < (x.length : Int)
        · go_wp2_with fail
          refine bodyPost_ret (v := .bool false) (by simp [results, Tryz.results45, go_sem]) rfl ?_
          exact ⟨by rw [HE.out], uu0.trans hu⟩
        · go_wp2_with fail
          refine bodyPost_ret (v := .bool false) (by simp [results, Tryz.results45, go_sem]) rfl ?_
          exact ⟨by rw [HE.out], uu0.trans hu⟩
theorem cs_SlotsOk (v : Value) (y : TBtree) (w : World) (h : AV shBtree w v y) (hn : shBtree.sz y ≤ 1048576) : Calls Tryz.prog 45 #[v] w (RetV (.bool (slotsB y.2)) w) := c_specSlotsOk v y w h hn
theorem ci_SlotsOk (v : Value) (y : TBtree) (w : World) (h : AV shBtree w v y) (hn : shBtree.sz y ≤ 1048576) (htab : Tab w) (hm : MaxL w) : Calls Tryz.prog 46 #[v] w (RetV (.bool (slotsB y.2)) w) := c_implSlotsOk v y w h hn htab hm
end Go.Proofs.YtpjcgglhlmifdaaGreatDoor
