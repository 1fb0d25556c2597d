/-
  Lists of images: the reference's side.
-/
import Derived.Test.YtanjmolgpkffoaaGreatDoorM2Ip
namespace Go.Proofs.YtanjmolgpkffoaaGreatDoor
open Go.RowKit
set_option linter.unusedVariables false
set_option linter.unusedSimpArgs false

set_option maxRecDepth 100000 in
set_option maxHeartbeats 16000000 in
theorem c_specImagesOk (xs : List TImage) (A : Option Addr) (c : Nat) (w : World) (h : SRW shImage w A c xs) :
    Calls Tryz.prog 20 #[.slice A xs.length c] w (RetV (.bool (imagesB xs)) w) := by
  have hlen := h.len_le
  go_enter Tryz.func20, Tryz.ntmps20
  go_wp2_with fail
  go_loopw [3] (fun i wr => ∃ k : Nat, k ≤ xs.length ∧ k ≤ 241 ∧ i = .int .i64 k ∧ Hid (∀ i (h : i < xs.length), i < k → imgB xs[i] = true ∧ (0 < i → locLt (xs[i - 1].1, xs[i - 1].2.1) (xs[i].1, xs[i].2.1) = true)) ∧ Up w wr) (fun i _ => xs.length - (intOf i).toNat)
  case atStart => exact ⟨0, Nat.zero_le _, Nat.zero_le _, rfl, fun i h hi => absurd hi (by omega), Up.refl _⟩
  case round =>
    obtain ⟨k, hk, hk2, rfl, HA, hu⟩ := hrel
    by_cases hlt : k < xs.length
    · by_cases h241 : k ≤ 240
      · obtain ⟨g, off, A2, c2, hA, _, hgl, hc0, hc1, hc2, hc3, hc4, hc5, b0, b1, b3, b5, _⟩ := atImage (h.up good_Image hu) hlt
        have cp := fun W (hW : Up wr W) => c_l03Place xs[k].1 xs[k].2.1 A2 c2 W b0 (SR.up good_S b1 hW)
        have kb := Bk.new wr 98 #[.string xs[k].1, .slice A2 xs[k].2.1.length c2, .bool xs[k].2.2.1, .string xs[k].2.2.2.1, .bool xs[k].2.2.2.2.1, .string xs[k].2.2.2.2.2]
        have uA : Up wr (wr.alloc (.cells #[.string xs[k].1, .slice A2 xs[k].2.1.length c2, .bool xs[k].2.2.1, .string xs[k].2.2.2.1, .bool xs[k].2.2.2.2.1, .string xs[k].2.2.2.2.2] 98)) := (Up.refl wr).alloc _
        by_cases hk0 : k = 0
        · have hnp : imgB xs[k] = true → (∀ i (h : i < xs.length), i < k + 1 → imgB xs[i] = true ∧ (0 < i → locLt (xs[i - 1].1, xs[i - 1].2.1) (xs[i].1, xs[i].2.1) = true)) := fun hi i h hi2 => by
            obtain rfl : i = k := (by omega)
            exact ⟨hi, fun h0 => absurd h0 (by omega)⟩
          subst hk0 hA
          simp only [Nat.zero_mul, Nat.add_zero] at hc0 hc1 hc2 hc3 hc4 hc5
          have HNP := Lib.hid hnp
          clear hnp
          cases hp : placeB xs[0].1 xs[0].2.1
          · have hb : imgB xs[0] = false := by unfold imgB; rw [hp]; rfl
            rw [hp] at cp
            have CP := Lib.hid cp
            clear cp
            have HE := Lib.hid (imagesB_f (l := xs) fun hh => by have := (hh.2 0 hlt).1; rw [hb] at this; cases this)
            clear hb hp
            go_wp2_with fail
            generalize hW : (wr.alloc (.cells #[.string xs[0].1, .slice A2 xs[0].2.1.length c2, .bool xs[0].2.2.1, .string xs[0].2.2.2.1, .bool xs[0].2.2.2.2.1, .string xs[0].2.2.2.2.2] 98)) = W0 at *
            have t0 := fun t : UpT W0 => cell_up t (kb.cell 0 : W0.cell? ⟨wr.heap.size, 0, none⟩ = some (.string xs[0].1))
            have t1 := fun t : UpT W0 => cell_up t (kb.cell 1 : W0.cell? ⟨wr.heap.size, 1, none⟩ = some (.slice A2 xs[0].2.1.length c2))
            have t2 := fun t : UpT W0 => cell_up t (kb.cell 2 : W0.cell? ⟨wr.heap.size, 2, none⟩ = some (.bool xs[0].2.2.1))
            have t3 := fun t : UpT W0 => cell_up t (kb.cell 3 : W0.cell? ⟨wr.heap.size, 3, none⟩ = some (.string xs[0].2.2.2.1))
            have t4 := fun t : UpT W0 => cell_up t (kb.cell 4 : W0.cell? ⟨wr.heap.size, 4, none⟩ = some (.bool xs[0].2.2.2.2.1))
            have t5 := fun t : UpT W0 => cell_up t (kb.cell 5 : W0.cell? ⟨wr.heap.size, 5, none⟩ = some (.string xs[0].2.2.2.2.2))
            clear hW
            refine wp_region_up (by kernel_rfl) (by kernel_rfl) ?_
            repeat (go_big_quiet_step ((go_at_call 53; exact up_call (CP.out _ (uA.trans (UpT.up _))) (UpT.up _))))
            refine wpQuiet_nil ?_
            rintro _ ⟨⟨w1, u1⟩, rfl⟩
            go_wp2_with fail
            go_ret
            exact ⟨by rw [HE.out]; first | done | rfl, (hu.trans uA).trans u1⟩
          · have cp1 := cp
            rw [hp] at cp1
            have CP := Lib.hid cp1
            clear cp cp1
            by_cases h3 : 64 < xs[0].2.2.2.1.size
            · have hb : imgB xs[0] = false := by unfold imgB; rw [hp, decide_eq_true h3]; rfl
              have HE := Lib.hid (imagesB_f (l := xs) fun hh => by have := (hh.2 0 hlt).1; rw [hb] at this; cases this)
              have h3i : (64 : Int) < (xs[0].2.2.2.1.size : Int) := by omega
              clear hb h3
              go_wp2_with fail
              generalize hW : (wr.alloc (.cells #[.string xs[0].1, .slice A2 xs[0].2.1.length c2, .bool xs[0].2.2.1, .string xs[0].2.2.2.1, .bool xs[0].2.2.2.2.1, .string xs[0].2.2.2.2.2] 98)) = W0 at *
              have t0 := fun t : UpT W0 => cell_up t (kb.cell 0 : W0.cell? ⟨wr.heap.size, 0, none⟩ = some (.string xs[0].1))
              have t1 := fun t : UpT W0 => cell_up t (kb.cell 1 : W0.cell? ⟨wr.heap.size, 1, none⟩ = some (.slice A2 xs[0].2.1.length c2))
              have t2 := fun t : UpT W0 => cell_up t (kb.cell 2 : W0.cell? ⟨wr.heap.size, 2, none⟩ = some (.bool xs[0].2.2.1))
              have t3 := fun t : UpT W0 => cell_up t (kb.cell 3 : W0.cell? ⟨wr.heap.size, 3, none⟩ = some (.string xs[0].2.2.2.1))
              have t4 := fun t : UpT W0 => cell_up t (kb.cell 4 : W0.cell? ⟨wr.heap.size, 4, none⟩ = some (.bool xs[0].2.2.2.2.1))
              have t5 := fun t : UpT W0 => cell_up t (kb.cell 5 : W0.cell? ⟨wr.heap.size, 5, none⟩ = some (.string xs[0].2.2.2.2.2))
              clear hW
              refine wp_region_up (by kernel_rfl) (by kernel_rfl) ?_
              repeat (go_big_quiet_step ((go_at_call 53; exact up_call (CP.out _ (uA.trans (UpT.up _))) (UpT.up _))))
              refine wpQuiet_nil ?_
              rintro _ ⟨⟨w1, u1⟩, rfl⟩
              go_wp2_with fail
              go_ret
              exact ⟨by rw [HE.out]; first | done | rfl, (hu.trans uA).trans u1⟩
            · have h3i : decide ((64 : Int) < (xs[0].2.2.2.1.size : Int)) = false := by simp; omega
              by_cases h4 : 64 < xs[0].2.2.2.2.2.size
              · have hb : imgB xs[0] = false := by unfold imgB; rw [hp, decide_eq_true h4]; simp
                have HE := Lib.hid (imagesB_f (l := xs) fun hh => by have := (hh.2 0 hlt).1; rw [hb] at this; cases this)
                have h4i : (64 : Int) < (xs[0].2.2.2.2.2.size : Int) := by omega
                clear hb h4 h3
                go_wp2_with fail
                generalize hW : (wr.alloc (.cells #[.string xs[0].1, .slice A2 xs[0].2.1.length c2, .bool xs[0].2.2.1, .string xs[0].2.2.2.1, .bool xs[0].2.2.2.2.1, .string xs[0].2.2.2.2.2] 98)) = W0 at *
                have t0 := fun t : UpT W0 => cell_up t (kb.cell 0 : W0.cell? ⟨wr.heap.size, 0, none⟩ = some (.string xs[0].1))
                have t1 := fun t : UpT W0 => cell_up t (kb.cell 1 : W0.cell? ⟨wr.heap.size, 1, none⟩ = some (.slice A2 xs[0].2.1.length c2))
                have t2 := fun t : UpT W0 => cell_up t (kb.cell 2 : W0.cell? ⟨wr.heap.size, 2, none⟩ = some (.bool xs[0].2.2.1))
                have t3 := fun t : UpT W0 => cell_up t (kb.cell 3 : W0.cell? ⟨wr.heap.size, 3, none⟩ = some (.string xs[0].2.2.2.1))
                have t4 := fun t : UpT W0 => cell_up t (kb.cell 4 : W0.cell? ⟨wr.heap.size, 4, none⟩ = some (.bool xs[0].2.2.2.2.1))
                have t5 := fun t : UpT W0 => cell_up t (kb.cell 5 : W0.cell? ⟨wr.heap.size, 5, none⟩ = some (.string xs[0].2.2.2.2.2))
                clear hW
                refine wp_region_up (by kernel_rfl) (by kernel_rfl) ?_
                repeat (go_big_quiet_step ((go_at_call 53; exact up_call (CP.out _ (uA.trans (UpT.up _))) (UpT.up _))))
                refine wpQuiet_nil ?_
                rintro _ ⟨⟨w1, u1⟩, rfl⟩
                go_wp2_with fail
                go_ret
                exact ⟨by rw [HE.out]; first | done | rfl, (hu.trans uA).trans u1⟩
              · have h4i : decide ((64 : Int) < (xs[0].2.2.2.2.2.size : Int)) = false := by simp; omega
                have hv : imgB xs[0] = ((xs[0].2.2.1 || xs[0].2.2.2.1.toList.isEmpty) && (xs[0].2.2.2.2.1 || xs[0].2.2.2.2.2.toList.isEmpty) && !(xs[0].2.2.1 == xs[0].2.2.2.2.1 && xs[0].2.2.2.1.toList == xs[0].2.2.2.2.2.toList)) := by unfold imgB; rw [hp, decide_eq_false h3, decide_eq_false h4]; simp
                have HV := Lib.hid hv
                clear hv h3 h4
                go_wp2_with fail
                generalize hW : (wr.alloc (.cells #[.string xs[0].1, .slice A2 xs[0].2.1.length c2, .bool xs[0].2.2.1, .string xs[0].2.2.2.1, .bool xs[0].2.2.2.2.1, .string xs[0].2.2.2.2.2] 98)) = W0 at *
                have t0 := fun t : UpT W0 => cell_up t (kb.cell 0 : W0.cell? ⟨wr.heap.size, 0, none⟩ = some (.string xs[0].1))
                have t1 := fun t : UpT W0 => cell_up t (kb.cell 1 : W0.cell? ⟨wr.heap.size, 1, none⟩ = some (.slice A2 xs[0].2.1.length c2))
                have t2 := fun t : UpT W0 => cell_up t (kb.cell 2 : W0.cell? ⟨wr.heap.size, 2, none⟩ = some (.bool xs[0].2.2.1))
                have t3 := fun t : UpT W0 => cell_up t (kb.cell 3 : W0.cell? ⟨wr.heap.size, 3, none⟩ = some (.string xs[0].2.2.2.1))
                have t4 := fun t : UpT W0 => cell_up t (kb.cell 4 : W0.cell? ⟨wr.heap.size, 4, none⟩ = some (.bool xs[0].2.2.2.2.1))
                have t5 := fun t : UpT W0 => cell_up t (kb.cell 5 : W0.cell? ⟨wr.heap.size, 5, none⟩ = some (.string xs[0].2.2.2.2.2))
                clear hW
                refine wp_region_up (by kernel_rfl) (by kernel_rfl) ?_
                repeat (go_big_quiet_step ((go_at_call 53; exact up_call (CP.out _ (uA.trans (UpT.up _))) (UpT.up _))))
                refine wpQuiet_nil ?_
                rintro _ ⟨⟨w1, u1⟩, rfl⟩
                have gA := fun j => (kb.up u1).cell j
                generalize xs[0].2.2.1 = had at *
                generalize xs[0].2.2.2.2.1 = has at *
                cases had <;> cases has <;> cases hw : xs[0].2.2.2.1.toList.isEmpty <;> cases hj : xs[0].2.2.2.2.2.toList.isEmpty <;> cases he : (xs[0].2.2.2.1.toList == xs[0].2.2.2.2.2.toList)
                all_goals
                  have g2 := gA 2
                  have g3 := gA 3
                  have g4 := gA 4
                  have g5 := gA 5
                  simp only [List.getElem?_toArray, List.getElem?_cons_succ, List.getElem?_cons_zero] at g2 g3 g4 g5
                  first
                    | (have hvv : imgB xs[0] = false := HV.out.trans (by rw [hw, hj, he]; first | done | rfl)
                       have HE := Lib.hid (imagesB_f (l := xs) fun hh => by have := (hh.2 _ hlt).1; rw [hvv] at this; cases this)
                       clear hvv gA
                       go_wp2_with fail
                       go_ret
                       exact ⟨by rw [HE.out]; first | done | rfl, (hu.trans uA).trans u1⟩)
                    | (have hvv : imgB xs[0] = true := HV.out.trans (by rw [hw, hj, he]; first | done | rfl)
                       have HN := HNP.out hvv
                       clear hvv gA
                       go_wp2_with fail
                       go_roundw
                       case rel => exact ⟨0 + 1, by omega, by omega, rfl, HN, (hu.trans uA).trans u1⟩
                       case measure => simp [intOf]; omega)
        · obtain ⟨p, rfl⟩ : ∃ p, k = p + 1 := ⟨k - 1, by omega⟩
          have hlp : p < xs.length := by omega
          obtain ⟨g', off', A3, c3, hA', _, _, hp0, hp1, _, _, _, _, _, d1, _, _, _⟩ := atImage (h.up good_Image hu) hlp
          subst hA
          simp only [Option.some.injEq, Addr.mk.injEq, and_true] at hA'
          obtain ⟨rfl, rfl⟩ := hA'
          have cl := fun W (hW : Up wr W) => c_l03Less xs[p].1 xs[p + 1].1 xs[p].2.1 xs[p + 1].2.1 A3 A2 c3 c2 W (SR.up good_S d1 hW) (SR.up good_S b1 hW)
          cases hp : placeB xs[p + 1].1 xs[p + 1].2.1
          · have hb : imgB xs[p + 1] = false := by unfold imgB; rw [hp]; rfl
            rw [hp] at cp
            have CP := Lib.hid cp
            have CL := Lib.hid cl
            clear cp cl
            have HE := Lib.hid (imagesB_f (l := xs) fun hh => by have := (hh.2 (p + 1) hlt).1; rw [hb] at this; cases this)
            clear hb hp
            go_wp2_with fail
            generalize hW : (wr.alloc (.cells #[.string xs[p + 1].1, .slice A2 xs[p + 1].2.1.length c2, .bool xs[p + 1].2.2.1, .string xs[p + 1].2.2.2.1, .bool xs[p + 1].2.2.2.2.1, .string xs[p + 1].2.2.2.2.2] 98)) = W0 at *
            have t0 := fun t : UpT W0 => cell_up t (kb.cell 0 : W0.cell? ⟨wr.heap.size, 0, none⟩ = some (.string xs[p + 1].1))
            have t1 := fun t : UpT W0 => cell_up t (kb.cell 1 : W0.cell? ⟨wr.heap.size, 1, none⟩ = some (.slice A2 xs[p + 1].2.1.length c2))
            have t2 := fun t : UpT W0 => cell_up t (kb.cell 2 : W0.cell? ⟨wr.heap.size, 2, none⟩ = some (.bool xs[p + 1].2.2.1))
            have t3 := fun t : UpT W0 => cell_up t (kb.cell 3 : W0.cell? ⟨wr.heap.size, 3, none⟩ = some (.string xs[p + 1].2.2.2.1))
            have t4 := fun t : UpT W0 => cell_up t (kb.cell 4 : W0.cell? ⟨wr.heap.size, 4, none⟩ = some (.bool xs[p + 1].2.2.2.2.1))
            have t5 := fun t : UpT W0 => cell_up t (kb.cell 5 : W0.cell? ⟨wr.heap.size, 5, none⟩ = some (.string xs[p + 1].2.2.2.2.2))
            clear hW
            have t8 := fun t : UpT W0 => cell_up t ((uA.cell (cell_lt hp0)).trans hp0)
            have t9 := fun t : UpT W0 => cell_up t ((uA.cell (cell_lt hp1)).trans hp1)
            refine wp_region_up (by kernel_rfl) (by kernel_rfl) ?_
            repeat (go_big_quiet_step ((first | (go_at_call 53; exact up_call (CP.out _ (uA.trans (UpT.up _))) (UpT.up _)) | (go_at_call 61; exact up_call (CL.out _ (uA.trans (UpT.up _))) (UpT.up _)))))
            refine wpQuiet_nil ?_
            rintro _ ⟨⟨w1, u1⟩, rfl⟩
            go_wp2_with fail
            go_ret
            exact ⟨by rw [HE.out]; first | done | rfl, (hu.trans uA).trans u1⟩
          · have cp1 := cp
            rw [hp] at cp1
            have CP := Lib.hid cp1
            clear cp cp1
            cases hL : locLt (xs[p].1, xs[p].2.1) (xs[p + 1].1, xs[p + 1].2.1)
            · have HE := Lib.hid (imagesB_f (l := xs) fun hh => by have := (hh.2 (p + 1) hlt).2 (by omega); simp only [Nat.add_sub_cancel] at this; rw [hL] at this; cases this)
              rw [hL] at cl
              have CL := Lib.hid cl
              clear cl hL hp
              go_wp2_with fail
              generalize hW : (wr.alloc (.cells #[.string xs[p + 1].1, .slice A2 xs[p + 1].2.1.length c2, .bool xs[p + 1].2.2.1, .string xs[p + 1].2.2.2.1, .bool xs[p + 1].2.2.2.2.1, .string xs[p + 1].2.2.2.2.2] 98)) = W0 at *
              have t0 := fun t : UpT W0 => cell_up t (kb.cell 0 : W0.cell? ⟨wr.heap.size, 0, none⟩ = some (.string xs[p + 1].1))
              have t1 := fun t : UpT W0 => cell_up t (kb.cell 1 : W0.cell? ⟨wr.heap.size, 1, none⟩ = some (.slice A2 xs[p + 1].2.1.length c2))
              have t2 := fun t : UpT W0 => cell_up t (kb.cell 2 : W0.cell? ⟨wr.heap.size, 2, none⟩ = some (.bool xs[p + 1].2.2.1))
              have t3 := fun t : UpT W0 => cell_up t (kb.cell 3 : W0.cell? ⟨wr.heap.size, 3, none⟩ = some (.string xs[p + 1].2.2.2.1))
              have t4 := fun t : UpT W0 => cell_up t (kb.cell 4 : W0.cell? ⟨wr.heap.size, 4, none⟩ = some (.bool xs[p + 1].2.2.2.2.1))
              have t5 := fun t : UpT W0 => cell_up t (kb.cell 5 : W0.cell? ⟨wr.heap.size, 5, none⟩ = some (.string xs[p + 1].2.2.2.2.2))
              clear hW
              have t8 := fun t : UpT W0 => cell_up t ((uA.cell (cell_lt hp0)).trans hp0)
              have t9 := fun t : UpT W0 => cell_up t ((uA.cell (cell_lt hp1)).trans hp1)
              refine wp_region_up (by kernel_rfl) (by kernel_rfl) ?_
              repeat (go_big_quiet_step ((first | (go_at_call 53; exact up_call (CP.out _ (uA.trans (UpT.up _))) (UpT.up _)) | (go_at_call 61; exact up_call (CL.out _ (uA.trans (UpT.up _))) (UpT.up _)))))
              refine wpQuiet_nil ?_
              rintro _ ⟨⟨w1, u1⟩, rfl⟩
              go_wp2_with fail
              go_ret
              exact ⟨by rw [HE.out]; first | done | rfl, (hu.trans uA).trans u1⟩
            · have hnp : imgB xs[p + 1] = true → (∀ i (h : i < xs.length), i < p + 1 + 1 → imgB xs[i] = true ∧ (0 < i → locLt (xs[i - 1].1, xs[i - 1].2.1) (xs[i].1, xs[i].2.1) = true)) := fun hi i h hi2 => by
                by_cases e : i = p + 1
                · subst e
                  exact ⟨hi, fun _ => by simpa only [Nat.add_sub_cancel] using hL⟩
                · exact HA.out i h (by omega)
              have HNP := Lib.hid hnp
              rw [hL] at cl
              have CL := Lib.hid cl
              clear cl hL hnp
              by_cases h3 : 64 < xs[p + 1].2.2.2.1.size
              · have hb : imgB xs[p + 1] = false := by unfold imgB; rw [hp, decide_eq_true h3]; rfl
                have HE := Lib.hid (imagesB_f (l := xs) fun hh => by have := (hh.2 (p + 1) hlt).1; rw [hb] at this; cases this)
                have h3i : (64 : Int) < (xs[p + 1].2.2.2.1.size : Int) := by omega
                clear hb h3
                go_wp2_with fail
                generalize hW : (wr.alloc (.cells #[.string xs[p + 1].1, .slice A2 xs[p + 1].2.1.length c2, .bool xs[p + 1].2.2.1, .string xs[p + 1].2.2.2.1, .bool xs[p + 1].2.2.2.2.1, .string xs[p + 1].2.2.2.2.2] 98)) = W0 at *
                have t0 := fun t : UpT W0 => cell_up t (kb.cell 0 : W0.cell? ⟨wr.heap.size, 0, none⟩ = some (.string xs[p + 1].1))
                have t1 := fun t : UpT W0 => cell_up t (kb.cell 1 : W0.cell? ⟨wr.heap.size, 1, none⟩ = some (.slice A2 xs[p + 1].2.1.length c2))
                have t2 := fun t : UpT W0 => cell_up t (kb.cell 2 : W0.cell? ⟨wr.heap.size, 2, none⟩ = some (.bool xs[p + 1].2.2.1))
                have t3 := fun t : UpT W0 => cell_up t (kb.cell 3 : W0.cell? ⟨wr.heap.size, 3, none⟩ = some (.string xs[p + 1].2.2.2.1))
                have t4 := fun t : UpT W0 => cell_up t (kb.cell 4 : W0.cell? ⟨wr.heap.size, 4, none⟩ = some (.bool xs[p + 1].2.2.2.2.1))
                have t5 := fun t : UpT W0 => cell_up t (kb.cell 5 : W0.cell? ⟨wr.heap.size, 5, none⟩ = some (.string xs[p + 1].2.2.2.2.2))
                clear hW
                have t8 := fun t : UpT W0 => cell_up t ((uA.cell (cell_lt hp0)).trans hp0)
                have t9 := fun t : UpT W0 => cell_up t ((uA.cell (cell_lt hp1)).trans hp1)
                refine wp_region_up (by kernel_rfl) (by kernel_rfl) ?_
                repeat (go_big_quiet_step ((first | (go_at_call 53; exact up_call (CP.out _ (uA.trans (UpT.up _))) (UpT.up _)) | (go_at_call 61; exact up_call (CL.out _ (uA.trans (UpT.up _))) (UpT.up _)))))
                refine wpQuiet_nil ?_
                rintro _ ⟨⟨w1, u1⟩, rfl⟩
                go_wp2_with fail
                go_ret
                exact ⟨by rw [HE.out]; first | done | rfl, (hu.trans uA).trans u1⟩
              · have h3i : decide ((64 : Int) < (xs[p + 1].2.2.2.1.size : Int)) = false := by simp; omega
                by_cases h4 : 64 < xs[p + 1].2.2.2.2.2.size
                · have hb : imgB xs[p + 1] = false := by unfold imgB; rw [hp, decide_eq_true h4]; simp
                  have HE := Lib.hid (imagesB_f (l := xs) fun hh => by have := (hh.2 (p + 1) hlt).1; rw [hb] at this; cases this)
                  have h4i : (64 : Int) < (xs[p + 1].2.2.2.2.2.size : Int) := by omega
                  clear hb h4 h3
                  go_wp2_with fail
                  generalize hW : (wr.alloc (.cells #[.string xs[p + 1].1, .slice A2 xs[p + 1].2.1.length c2, .bool xs[p + 1].2.2.1, .string xs[p + 1].2.2.2.1, .bool xs[p + 1].2.2.2.2.1, .string xs[p + 1].2.2.2.2.2] 98)) = W0 at *
                  have t0 := fun t : UpT W0 => cell_up t (kb.cell 0 : W0.cell? ⟨wr.heap.size, 0, none⟩ = some (.string xs[p + 1].1))
                  have t1 := fun t : UpT W0 => cell_up t (kb.cell 1 : W0.cell? ⟨wr.heap.size, 1, none⟩ = some (.slice A2 xs[p + 1].2.1.length c2))
                  have t2 := fun t : UpT W0 => cell_up t (kb.cell 2 : W0.cell? ⟨wr.heap.size, 2, none⟩ = some (.bool xs[p + 1].2.2.1))
                  have t3 := fun t : UpT W0 => cell_up t (kb.cell 3 : W0.cell? ⟨wr.heap.size, 3, none⟩ = some (.string xs[p + 1].2.2.2.1))
                  have t4 := fun t : UpT W0 => cell_up t (kb.cell 4 : W0.cell? ⟨wr.heap.size, 4, none⟩ = some (.bool xs[p + 1].2.2.2.2.1))
                  have t5 := fun t : UpT W0 => cell_up t (kb.cell 5 : W0.cell? ⟨wr.heap.size, 5, none⟩ = some (.string xs[p + 1].2.2.2.2.2))
                  clear hW
                  have t8 := fun t : UpT W0 => cell_up t ((uA.cell (cell_lt hp0)).trans hp0)
                  have t9 := fun t : UpT W0 => cell_up t ((uA.cell (cell_lt hp1)).trans hp1)
                  refine wp_region_up (by kernel_rfl) (by kernel_rfl) ?_
                  repeat (go_big_quiet_step ((first | (go_at_call 53; exact up_call (CP.out _ (uA.trans (UpT.up _))) (UpT.up _)) | (go_at_call 61; exact up_call (CL.out _ (uA.trans (UpT.up _))) (UpT.up _)))))
                  refine wpQuiet_nil ?_
                  rintro _ ⟨⟨w1, u1⟩, rfl⟩
                  go_wp2_with fail
                  go_ret
                  exact ⟨by rw [HE.out]; first | done | rfl, (hu.trans uA).trans u1⟩
                · have h4i : decide ((64 : Int) < (xs[p + 1].2.2.2.2.2.size : Int)) = false := by simp; omega
                  have hv : imgB xs[p + 1] = ((xs[p + 1].2.2.1 || xs[p + 1].2.2.2.1.toList.isEmpty) && (xs[p + 1].2.2.2.2.1 || xs[p + 1].2.2.2.2.2.toList.isEmpty) && !(xs[p + 1].2.2.1 == xs[p + 1].2.2.2.2.1 && xs[p + 1].2.2.2.1.toList == xs[p + 1].2.2.2.2.2.toList)) := by unfold imgB; rw [hp, decide_eq_false h3, decide_eq_false h4]; simp
                  have HV := Lib.hid hv
                  clear hv h3 h4
                  go_wp2_with fail
                  generalize hW : (wr.alloc (.cells #[.string xs[p + 1].1, .slice A2 xs[p + 1].2.1.length c2, .bool xs[p + 1].2.2.1, .string xs[p + 1].2.2.2.1, .bool xs[p + 1].2.2.2.2.1, .string xs[p + 1].2.2.2.2.2] 98)) = W0 at *
                  have t0 := fun t : UpT W0 => cell_up t (kb.cell 0 : W0.cell? ⟨wr.heap.size, 0, none⟩ = some (.string xs[p + 1].1))
                  have t1 := fun t : UpT W0 => cell_up t (kb.cell 1 : W0.cell? ⟨wr.heap.size, 1, none⟩ = some (.slice A2 xs[p + 1].2.1.length c2))
                  have t2 := fun t : UpT W0 => cell_up t (kb.cell 2 : W0.cell? ⟨wr.heap.size, 2, none⟩ = some (.bool xs[p + 1].2.2.1))
                  have t3 := fun t : UpT W0 => cell_up t (kb.cell 3 : W0.cell? ⟨wr.heap.size, 3, none⟩ = some (.string xs[p + 1].2.2.2.1))
                  have t4 := fun t : UpT W0 => cell_up t (kb.cell 4 : W0.cell? ⟨wr.heap.size, 4, none⟩ = some (.bool xs[p + 1].2.2.2.2.1))
                  have t5 := fun t : UpT W0 => cell_up t (kb.cell 5 : W0.cell? ⟨wr.heap.size, 5, none⟩ = some (.string xs[p + 1].2.2.2.2.2))
                  clear hW
                  have t8 := fun t : UpT W0 => cell_up t ((uA.cell (cell_lt hp0)).trans hp0)
                  have t9 := fun t : UpT W0 => cell_up t ((uA.cell (cell_lt hp1)).trans hp1)
                  refine wp_region_up (by kernel_rfl) (by kernel_rfl) ?_
                  repeat (go_big_quiet_step ((first | (go_at_call 53; exact up_call (CP.out _ (uA.trans (UpT.up _))) (UpT.up _)) | (go_at_call 61; exact up_call (CL.out _ (uA.trans (UpT.up _))) (UpT.up _)))))
                  refine wpQuiet_nil ?_
                  rintro _ ⟨⟨w1, u1⟩, rfl⟩
                  have gA := fun j => (kb.up u1).cell j
                  generalize xs[p + 1].2.2.1 = had at *
                  generalize xs[p + 1].2.2.2.2.1 = has at *
                  cases had <;> cases has <;> cases hw : xs[p + 1].2.2.2.1.toList.isEmpty <;> cases hj : xs[p + 1].2.2.2.2.2.toList.isEmpty <;> cases he : (xs[p + 1].2.2.2.1.toList == xs[p + 1].2.2.2.2.2.toList)
                  all_goals
                    have g2 := gA 2
                    have g3 := gA 3
                    have g4 := gA 4
                    have g5 := gA 5
                    simp only [List.getElem?_toArray, List.getElem?_cons_succ, List.getElem?_cons_zero] at g2 g3 g4 g5
                    first
                      | (have hvv : imgB xs[p + 1] = false := HV.out.trans (by rw [hw, hj, he]; first | done | rfl)
                         have HE := Lib.hid (imagesB_f (l := xs) fun hh => by have := (hh.2 _ hlt).1; rw [hvv] at this; cases this)
                         clear hvv gA
                         go_wp2_with fail
                         go_ret
                         exact ⟨by rw [HE.out]; first | done | rfl, (hu.trans uA).trans u1⟩)
                      | (have hvv : imgB xs[p + 1] = true := HV.out.trans (by rw [hw, hj, he]; first | done | rfl)
                         have HN := HNP.out hvv
                         clear hvv gA
                         go_wp2_with fail
                         go_roundw
                         case rel => exact ⟨p + 1 + 1, by omega, by omega, by go_num, HN, (hu.trans uA).trans u1⟩
                         case measure => simp [intOf]; omega)
      · have HE := Lib.hid (imagesB_f (l := xs) fun hh => by have := hh.1; omega)
        go_wp2_with fail
        go_ret
        exact ⟨by rw [HE.out]; first | done | rfl | (simp; omega), hu⟩
    · by_cases h240 : xs.length ≤ 240
      · have HE := Lib.hid (imagesB_t (l := xs) ⟨h240, fun i h => HA.out i h (by omega)⟩)
        go_wp2_with fail
        go_ret
        exact ⟨by rw [HE.out]; first | done | rfl | (simp; omega), hu⟩
      · have HE := Lib.hid (imagesB_f (l := xs) fun hh => h240 hh.1)
        go_wp2_with fail
        go_ret
        exact ⟨by rw [HE.out]; first | done | rfl | (simp; omega), hu⟩
end Go.Proofs.YtanjmolgpkffoaaGreatDoor
