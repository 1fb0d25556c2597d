/-
  Lists of images: the program's side.
-/
import Derived.Test.YtanjmolgpkffoaaGreatDoorM2H
import Derived.BigQuiet
import Derived.Deep.QuietTactic
namespace Go.Proofs.YtanjmolgpkffoaaGreatDoor
open Go.RowKit
set_option linter.unusedVariables false
set_option linter.unusedSimpArgs false

theorem img_small {x : TImage} (h : shImage.sz x ≤ 1048576) : Small x.2.1 := fun i hi => by
  have h1 : (shL shS).sz x.2.1 ≤ shImage.sz x := by
    show (shL shS).sz x.2.1 ≤ shS.sz x.1 + ((shL shS).sz x.2.1 + _)
    omega
  exact sz_le shS x.2.1 hi (Nat.le_trans h1 h)
set_option maxRecDepth 100000 in
set_option maxHeartbeats 8000000 in
theorem c_implImagesOk (xs : List TImage) (A : Option Addr) (c : Nat) (w : World) (h : SRW shImage w A c xs) (hn : (shL shImage).sz xs ≤ 1048576) (htab : Tab w) :
    Calls Tryz.prog 22 #[.slice A xs.length c] w (RetV (.bool (imagesB xs)) w) := by
  have hlen := h.len_le
  have HSZ := Lib.hid (fun (i : Nat) (hi : i < xs.length) => sz_le shImage xs hi hn)
  clear hn
  go_enter Tryz.func22, Tryz.ntmps22
  go_wp2_with fail
  go_loopw [7] (fun i wr => ∃ k : Nat, k ≤ xs.length ∧ i = .int .i64 k ∧ Hid (∀ i (h : i < xs.length), i < k → imgB xs[i] = true ∧ (0 < i → locLt (xs[i - 1].1, xs[i - 1].2.1) (xs[i].1, xs[i].2.1) = true)) ∧ Up w wr) (fun i _ => xs.length - (intOf i).toNat)
  case atStart => exact ⟨0, Nat.zero_le _, rfl, fun i h hi => absurd hi (by omega), Up.refl _⟩
  case round =>
    obtain ⟨k, hk, rfl, HA, hu⟩ := hrel
    by_cases hlt : k < xs.length
    · have sm := img_small (HSZ.out k hlt)
      have HSM := Lib.hid sm
      clear sm
      obtain ⟨g, off, A2, c2, hA, _, hgl, hc0, hc1, hc2, hc3, hc4, hc5, b0, b1, b3, b5, _⟩ := atImage (h.up good_Image hu) hlt
      have av : ∀ W, Up wr W → AV shImage W (.agg #[.string xs[k].1, .slice A2 xs[k].2.1.length c2, .bool xs[k].2.2.1, .string xs[k].2.2.2.1, .bool xs[k].2.2.2.2.1, .string xs[k].2.2.2.2.2]) xs[k] := fun W hW => AV.up good_Image ⟨_, rfl, mkImage (x := xs[k]) b0 b1 b3 b5⟩ hW
      have ci := fun W (hW : Up wr W) => c_imageOk xs[k] _ W (av W hW)
      have kb := Bk.new wr 98 #[.string xs[k].1, .slice A2 xs[k].2.1.length c2, .bool xs[k].2.2.1, .string xs[k].2.2.2.1, .bool xs[k].2.2.2.2.1, .string xs[k].2.2.2.2.2]
      have uA : Up wr (wr.alloc (.cells #[.string xs[k].1, .slice A2 xs[k].2.1.length c2, .bool xs[k].2.2.1, .string xs[k].2.2.2.1, .bool xs[k].2.2.2.2.1, .string xs[k].2.2.2.2.2] 98)) := (Up.refl wr).alloc _
      cases hi : imgB xs[k]
      · have HE := Lib.hid (imagesB_f (l := xs) fun hh => by have := (hh.2 k hlt).1; rw [hi] at this; cases this)
        rw [hi] at ci
        have CI := Lib.hid ci
        subst hA
        clear ci av hi
        go_wp2_with fail
        generalize hW : (wr.alloc (.cells #[.string xs[k].1, .slice A2 xs[k].2.1.length c2, .bool xs[k].2.2.1, .string xs[k].2.2.2.1, .bool xs[k].2.2.2.2.1, .string xs[k].2.2.2.2.2] 98)) = W0 at *
        have t0 := fun t : UpT W0 => cell_up t (kb.cell 0 : W0.cell? ⟨wr.heap.size, 0, none⟩ = some (.string xs[k].1))
        have t1 := fun t : UpT W0 => cell_up t (kb.cell 1 : W0.cell? ⟨wr.heap.size, 1, none⟩ = some (.slice A2 xs[k].2.1.length c2))
        have t2 := fun t : UpT W0 => cell_up t (kb.cell 2 : W0.cell? ⟨wr.heap.size, 2, none⟩ = some (.bool xs[k].2.2.1))
        have t3 := fun t : UpT W0 => cell_up t (kb.cell 3 : W0.cell? ⟨wr.heap.size, 3, none⟩ = some (.string xs[k].2.2.2.1))
        have t4 := fun t : UpT W0 => cell_up t (kb.cell 4 : W0.cell? ⟨wr.heap.size, 4, none⟩ = some (.bool xs[k].2.2.2.2.1))
        have t5 := fun t : UpT W0 => cell_up t (kb.cell 5 : W0.cell? ⟨wr.heap.size, 5, none⟩ = some (.string xs[k].2.2.2.2.2))
        clear hW
        refine wp_region_up (by kernel_rfl) (by kernel_rfl) ?_
        repeat (go_big_quiet_step ((go_at_call 63; exact up_call (CI.out _ (uA.trans (UpT.up _))) (UpT.up _))))
        refine wpQuiet_nil ?_
        rintro _ ⟨⟨w1, u1⟩, rfl⟩
        go_wp2_with fail
        go_ret
        exact ⟨by rw [HE.out]; first | done | rfl, (hu.trans uA).trans u1⟩
      · rw [hi] at ci
        have CI := Lib.hid ci
        clear ci av
        by_cases hk0 : k = 0
        · have HN : Hid (∀ i (h : i < xs.length), i < k + 1 → imgB xs[i] = true ∧ (0 < i → locLt (xs[i - 1].1, xs[i - 1].2.1) (xs[i].1, xs[i].2.1) = true)) := fun i h hi2 => by
            obtain rfl : i = k := (by omega)
            exact ⟨hi, fun h0 => absurd h0 (by omega)⟩
          clear hi
          subst hk0 hA
          simp only [Nat.zero_mul, Nat.add_zero] at hc0 hc1 hc2 hc3 hc4 hc5
          go_wp2_with fail
          generalize hW : (wr.alloc (.cells #[.string xs[0].1, .slice A2 xs[0].2.1.length c2, .bool xs[0].2.2.1, .string xs[0].2.2.2.1, .bool xs[0].2.2.2.2.1, .string xs[0].2.2.2.2.2] 98)) = W0 at *
          have t0 := fun t : UpT W0 => cell_up t (kb.cell 0 : W0.cell? ⟨wr.heap.size, 0, none⟩ = some (.string xs[0].1))
          have t1 := fun t : UpT W0 => cell_up t (kb.cell 1 : W0.cell? ⟨wr.heap.size, 1, none⟩ = some (.slice A2 xs[0].2.1.length c2))
          have t2 := fun t : UpT W0 => cell_up t (kb.cell 2 : W0.cell? ⟨wr.heap.size, 2, none⟩ = some (.bool xs[0].2.2.1))
          have t3 := fun t : UpT W0 => cell_up t (kb.cell 3 : W0.cell? ⟨wr.heap.size, 3, none⟩ = some (.string xs[0].2.2.2.1))
          have t4 := fun t : UpT W0 => cell_up t (kb.cell 4 : W0.cell? ⟨wr.heap.size, 4, none⟩ = some (.bool xs[0].2.2.2.2.1))
          have t5 := fun t : UpT W0 => cell_up t (kb.cell 5 : W0.cell? ⟨wr.heap.size, 5, none⟩ = some (.string xs[0].2.2.2.2.2))
          clear hW
          refine wp_region_up (by kernel_rfl) (by kernel_rfl) ?_
          repeat (go_big_quiet_step ((go_at_call 63; exact up_call (CI.out _ (uA.trans (UpT.up _))) (UpT.up _))))
          refine wpQuiet_nil ?_
          rintro _ ⟨⟨w1, u1⟩, rfl⟩
          go_wp2_with fail
          go_roundw
          case rel => exact ⟨1, by omega, rfl, HN, (hu.trans uA).trans u1⟩
          case measure => simp [intOf]; omega
        · obtain ⟨p, rfl⟩ : ∃ p, k = p + 1 := ⟨k - 1, by omega⟩
          have hlp : p < xs.length := by omega
          have sm := img_small (HSZ.out p hlp)
          have HSP := Lib.hid sm
          clear sm
          obtain ⟨g', off', A3, c3, hA', _, _, hp0, hp1, _, _, _, _, _, d1, _, _, _⟩ := atImage (h.up good_Image hu) hlp
          subst hA
          simp only [Option.some.injEq, Addr.mk.injEq, and_true] at hA'
          obtain ⟨rfl, rfl⟩ := hA'
          have cc := fun W (hW : Up wr W) => c_compareLocations xs[p].1 xs[p + 1].1 xs[p].2.1 xs[p + 1].2.1 A3 A2 c3 c2 W (SR.up good_S d1 hW) (SR.up good_S b1 hW) HSP.out HSM.out (tab_up htab (hu.trans hW))
          have hsub : IntKind.i64.wrap ((p : Int) + 1 - 1) = (p : Int) := by rw [IntWalk.i64_in _ (by omega)]; omega
          cases hL : locLt (xs[p].1, xs[p].2.1) (xs[p + 1].1, xs[p + 1].2.1)
          · have HE := Lib.hid (imagesB_f (l := xs) fun hh => by have := (hh.2 (p + 1) hlt).2 (by omega); simp only [Nat.add_sub_cancel] at this; rw [hL] at this; cases this)
            have hz := (cmpBy_nonneg lo_loc _ _).2 hL
            generalize cmpBy locLt (xs[p].1, xs[p].2.1) (xs[p + 1].1, xs[p + 1].2.1) = z at cc hz
            have CC := Lib.hid cc
            clear cc hL hi
            go_wp2_with fail
            generalize hW : (wr.alloc (.cells #[.string xs[p + 1].1, .slice A2 xs[p + 1].2.1.length c2, .bool xs[p + 1].2.2.1, .string xs[p + 1].2.2.2.1, .bool xs[p + 1].2.2.2.2.1, .string xs[p + 1].2.2.2.2.2] 98)) = W0 at *
            have t0 := fun t : UpT W0 => cell_up t (kb.cell 0 : W0.cell? ⟨wr.heap.size, 0, none⟩ = some (.string xs[p + 1].1))
            have t1 := fun t : UpT W0 => cell_up t (kb.cell 1 : W0.cell? ⟨wr.heap.size, 1, none⟩ = some (.slice A2 xs[p + 1].2.1.length c2))
            have t2 := fun t : UpT W0 => cell_up t (kb.cell 2 : W0.cell? ⟨wr.heap.size, 2, none⟩ = some (.bool xs[p + 1].2.2.1))
            have t3 := fun t : UpT W0 => cell_up t (kb.cell 3 : W0.cell? ⟨wr.heap.size, 3, none⟩ = some (.string xs[p + 1].2.2.2.1))
            have t4 := fun t : UpT W0 => cell_up t (kb.cell 4 : W0.cell? ⟨wr.heap.size, 4, none⟩ = some (.bool xs[p + 1].2.2.2.2.1))
            have t5 := fun t : UpT W0 => cell_up t (kb.cell 5 : W0.cell? ⟨wr.heap.size, 5, none⟩ = some (.string xs[p + 1].2.2.2.2.2))
            clear hW
            have t8 := fun t : UpT W0 => cell_up t ((uA.cell (cell_lt hp0)).trans hp0)
            have t9 := fun t : UpT W0 => cell_up t ((uA.cell (cell_lt hp1)).trans hp1)
            refine wp_region_up (by kernel_rfl) (by kernel_rfl) ?_
            repeat (go_big_quiet_step ((first | (go_at_call 63; exact up_call (CI.out _ (uA.trans (UpT.up _))) (UpT.up _)) | (go_at_call 64; exact up_call (CC.out _ (uA.trans (UpT.up _))) (UpT.up _)))))
            refine wpQuiet_nil ?_
            rintro _ ⟨⟨w1, u1⟩, rfl⟩
            go_wp2_with fail
            go_ret
            exact ⟨by rw [HE.out]; first | done | rfl, (hu.trans uA).trans u1⟩
          · have HN : Hid (∀ i (h : i < xs.length), i < p + 1 + 1 → imgB xs[i] = true ∧ (0 < i → locLt (xs[i - 1].1, xs[i - 1].2.1) (xs[i].1, xs[i].2.1) = true)) := fun i h hi2 => by
              by_cases e : i = p + 1
              · subst e
                exact ⟨hi, fun _ => by simpa only [Nat.add_sub_cancel] using hL⟩
              · exact HA.out i h (by omega)
            have hz : cmpBy locLt (xs[p].1, xs[p].2.1) (xs[p + 1].1, xs[p + 1].2.1) = -1 := cmpBy_lt hL
            rw [hz] at cc
            have CC := Lib.hid cc
            clear cc hL hi hz
            go_wp2_with fail
            generalize hW : (wr.alloc (.cells #[.string xs[p + 1].1, .slice A2 xs[p + 1].2.1.length c2, .bool xs[p + 1].2.2.1, .string xs[p + 1].2.2.2.1, .bool xs[p + 1].2.2.2.2.1, .string xs[p + 1].2.2.2.2.2] 98)) = W0 at *
            have t0 := fun t : UpT W0 => cell_up t (kb.cell 0 : W0.cell? ⟨wr.heap.size, 0, none⟩ = some (.string xs[p + 1].1))
            have t1 := fun t : UpT W0 => cell_up t (kb.cell 1 : W0.cell? ⟨wr.heap.size, 1, none⟩ = some (.slice A2 xs[p + 1].2.1.length c2))
            have t2 := fun t : UpT W0 => cell_up t (kb.cell 2 : W0.cell? ⟨wr.heap.size, 2, none⟩ = some (.bool xs[p + 1].2.2.1))
            have t3 := fun t : UpT W0 => cell_up t (kb.cell 3 : W0.cell? ⟨wr.heap.size, 3, none⟩ = some (.string xs[p + 1].2.2.2.1))
            have t4 := fun t : UpT W0 => cell_up t (kb.cell 4 : W0.cell? ⟨wr.heap.size, 4, none⟩ = some (.bool xs[p + 1].2.2.2.2.1))
            have t5 := fun t : UpT W0 => cell_up t (kb.cell 5 : W0.cell? ⟨wr.heap.size, 5, none⟩ = some (.string xs[p + 1].2.2.2.2.2))
            clear hW
            have t8 := fun t : UpT W0 => cell_up t ((uA.cell (cell_lt hp0)).trans hp0)
            have t9 := fun t : UpT W0 => cell_up t ((uA.cell (cell_lt hp1)).trans hp1)
            refine wp_region_up (by kernel_rfl) (by kernel_rfl) ?_
            repeat (go_big_quiet_step ((first | (go_at_call 63; exact up_call (CI.out _ (uA.trans (UpT.up _))) (UpT.up _)) | (go_at_call 64; exact up_call (CC.out _ (uA.trans (UpT.up _))) (UpT.up _)))))
            refine wpQuiet_nil ?_
            rintro _ ⟨⟨w1, u1⟩, rfl⟩
            go_wp2_with fail
            go_roundw
            case rel => exact ⟨p + 1 + 1, by omega, by go_num, HN, (hu.trans uA).trans u1⟩
            case measure => simp [intOf]; omega
    · by_cases h240 : xs.length ≤ 240
      · have HE := Lib.hid (imagesB_t (l := xs) ⟨h240, fun i h => HA.out i h (by omega)⟩)
        go_wp2_with fail
        go_ret
        exact ⟨by rw [HE.out]; first | done | rfl | (simp; omega), hu⟩
      · have HE := Lib.hid (imagesB_f (l := xs) fun hh => h240 hh.1)
        go_wp2_with fail
        go_ret
        exact ⟨by rw [HE.out]; first | done | rfl | (simp; omega), hu⟩
end Go.Proofs.YtanjmolgpkffoaaGreatDoor
