/-
  The reference's l19Images.
-/
import Derived.Test.YtehhgogmbpdpbaaGreatDoorM1Mjl
import Derived.Test.YtehhgogmbpdpbaaGreatDoorM1Mjr
import Derived.Test.YtehhgogmbpdpbaaGreatDoorM1Mjb
namespace Go.Proofs.YtehhgogmbpdpbaaGreatDoor
open Go.RowKit
set_option linter.unusedVariables false
set_option linter.unusedSimpArgs false

set_option maxRecDepth 100000 in
set_option maxHeartbeats 8000000 in
theorem c_l19Images (x y : TTree) (v u : Value) (w : World) (hv : AV shTree w v x) (hu : AV shTree w u y) (hx : x.length ≤ 120) (hy : y.length ≤ 120) (hxs : ∀ i (h : i < x.length), x[i].2.1.length ≤ 1048576) (hys : ∀ i (h : i < y.length), y[i].2.1.length ≤ 1048576) :
    Calls Tryz.prog 34 #[v, u] w (ToL shImage (imgs x y) w) := by
  obtain ⟨i0, hi0, hz0, hz1, hz2⟩ := info_parts cinfo_ImageT
  obtain ⟨cs, rfl, hv⟩ := hv
  obtain ⟨A0, c0, rfl, b00⟩ := openTree hv
  obtain ⟨cs', rfl, hu⟩ := hu
  obtain ⟨A1, c1, rfl, b01⟩ := openTree hu
  clear hv hu
  have HXS := Lib.hid hxs
  have HYS := Lib.hid hys
  clear hxs hys
  obtain ⟨W0, hW0⟩ : ∃ W0, W0 = ((w.alloc (.cells #[.slice A0 x.length c0] 33)).alloc (.cells #[.slice A1 y.length c1] 33)) := ⟨_, rfl⟩
  have u0 : Up w W0 := by rw [hW0]; exact ((Up.refl w).alloc _).alloc _
  have ka0 : Bk W0 w.heap.size 33 #[.slice A0 x.length c0] := by rw [hW0]; exact (Bk.new _ _ _).alloc _
  have kb0 : Bk W0 (w.heap.size + 1) 33 #[.slice A1 y.length c1] := by rw [hW0]; simpa using Bk.new (w.alloc (.cells #[.slice A0 x.length c0] 33)) 33 #[.slice A1 y.length c1]
  have hs0 : W0.heap.size = w.heap.size + 2 := by rw [hW0]; simp
  go_enter Tryz.func34, Tryz.ntmps34
  go_wp2_with fail
  rw [← hW0]
  clear hW0
  go_loopw [5, 6, 7] (fun o iv kv wr => ∃ (i k : Nat) (D : Option Addr) (d : Nat) (X : List TImage) (bl : List Nat), i ≤ x.length ∧ k ≤ y.length ∧ iv = .int .i64 i ∧ kv = .int .i64 k ∧ o = .slice D X.length d ∧ SO shImage wr (w.heap.size + 2) wr.heap.size D d X bl ∧ bl.Nodup ∧ Up W0 wr ∧ X.length ≤ i + k ∧ Hid (imgs x y = X ++ imgs (x.drop i) (y.drop k))) (fun _ iv kv _ => (x.length - (intOf iv).toNat) + (y.length - (intOf kv).toNat))
  case atStart => exact ⟨0, 0, _, 0, [], [], Nat.zero_le _, Nat.zero_le _, rfl, rfl, rfl, ⟨Nat.le_refl _, Nat.zero_le _, .inl ⟨rfl, rfl, rfl⟩⟩, by simp, (Up.refl W0).alloc _, Nat.zero_le _, by rw [List.drop_zero, List.drop_zero]; rfl⟩
  case round =>
    obtain ⟨i, k, D, d, X, bl, hi, hk, rfl, rfl, rfl, so, nd, hu, hXl, HC⟩ := hrel
    have uw := u0.trans hu
    have ka := ka0.up hu
    have kb := kb0.up hu
    have ga : wr.cell? ⟨w.heap.size, 0, none⟩ = some (.slice A0 x.length c0) := ka.cell 0
    have gb : wr.cell? ⟨w.heap.size + 1, 0, none⟩ = some (.slice A1 y.length c1) := kb.cell 0
    have hin := so.in_ good_Image
    have hws := hu.size
    have hxl2 : X.length ≤ 240 := by omega
    have SOH := Lib.hid so
    have NDH := Lib.hid nd
    clear so nd
    by_cases hent : i < x.length ∨ k < y.length
    · go_upto_region 3 with fail
      go_cut [26] (fun t wx => t = .bool true ∧ wr = wx)
      case first =>
        by_cases hi' : i < x.length
        · go_wp2_with fail
          go_meet
          exact ⟨rfl, rfl⟩
        · have hk' : k < y.length := by omega
          go_wp2_with fail
          go_meet
          exact ⟨rfl, rfl⟩
      obtain ⟨rfl, rfl⟩ := hcut
      go_upto_region 4 with fail
      go_cut [8] (fun t wx => t = .bool (leftB x y i k) ∧ Up wr wx)
      case first =>
        as_aux_lemma =>
          have r1 := fun t : UpT wr => cell_up t ga
          have r2 := fun t : UpT wr => cell_up t gb
          by_cases hk' : k < y.length
          · have d1 : decide (y.length ≤ k) = false := by simp; omega
            by_cases hi' : i < x.length
            · have d2 : decide (i < x.length) = true := by simp; omega
              obtain ⟨g0, o0, A2, e2, rfl, _, hgl0, hc0, hc1, hc2, p0, p1, p2, _⟩ := atNode b00 hi'
              obtain ⟨g1, o1, A3, e3, rfl, _, hgl1, hd0, hd1, hd2, s0, s1, s2, _⟩ := atNode b01 hk'
              have cc := fun W (hW : Up w W) => c_l03Less x[i].1 y[k].1 x[i].2.1 y[k].2.1 A2 A3 e2 e3 W (p1.up good_S hW) (s1.up good_S hW)
              have HV : Hid (leftB x y i k = locLt (x[i].1, x[i].2.1) (y[k].1, y[k].2.1)) := by unfold Hid leftB; rw [dif_pos hk', dif_pos hi']; first | done | rfl
              generalize leftB x y i k = V at *
              have CC := Lib.hid cc
              have r3 := fun t : UpT wr => cell_up t ((uw.cell (cell_lt hc0)).trans hc0)
              have r4 := fun t : UpT wr => cell_up t ((uw.cell (cell_lt hc1)).trans hc1)
              have r5 := fun t : UpT wr => cell_up t ((uw.cell (cell_lt hd0)).trans hd0)
              have r6 := fun t : UpT wr => cell_up t ((uw.cell (cell_lt hd1)).trans hd1)
              clear cc hc0 hc1 hc2 hd0 hd1 hd2
              refine wp_region_up (by kernel_rfl) (by kernel_rfl) ?_
              repeat (go_big_quiet_step ((go_at_call 73; exact up_call (CC.out _ (uw.trans (UpT.up _))) (UpT.up _))))
              refine wpQuiet_nil ?_
              rintro w1 ⟨⟨w1', u1⟩, rfl⟩
              go_wp2_with fail
              go_meet
              exact ⟨by rw [HV.out]; first | done | rfl, u1⟩
            · have d2 : decide (i < x.length) = false := by simp; omega
              have HV : Hid (leftB x y i k = false) := by unfold Hid leftB; rw [dif_pos hk', dif_neg hi']
              generalize leftB x y i k = V at *
              refine wp_region_up (by kernel_rfl) (by kernel_rfl) ?_
              repeat (go_big_quiet_step (fail))
              refine wpQuiet_nil ?_
              rintro w1 ⟨⟨w1', u1⟩, rfl⟩
              go_wp2_with fail
              go_meet
              exact ⟨by rw [HV.out]; first | done | rfl, u1⟩
          · have d1 : decide (y.length ≤ k) = true := by simp; omega
            have HV : Hid (leftB x y i k = true) := by unfold Hid leftB; rw [dif_neg hk']
            generalize leftB x y i k = V at *
            refine wp_region_up (by kernel_rfl) (by kernel_rfl) ?_
            repeat (go_big_quiet_step (fail))
            refine wpQuiet_nil ?_
            rintro w1 ⟨⟨w1', u1⟩, rfl⟩
            go_wp2_with fail
            go_meet
            exact ⟨by rw [HV.out]; first | done | rfl, u1⟩
      obtain ⟨rfl, u4⟩ := hcut
      obtain ⟨q4, hq4⟩ : ∃ q4, q4 = wc := ⟨_, rfl⟩
      subst hq4
      have ga4 : q4.cell? ⟨w.heap.size, 0, none⟩ = some (.slice A0 x.length c0) := (ka.up u4).cell 0
      have gb4 : q4.cell? ⟨w.heap.size + 1, 0, none⟩ = some (.slice A1 y.length c1) := (kb.up u4).cell 0
      go_upto_region 5 with fail
      go_cut [9] (fun t wx => t = .bool (rightB x y i k) ∧ Up q4 wx)
      case first =>
        as_aux_lemma =>
          have r1 := fun t : UpT q4 => cell_up t ga4
          have r2 := fun t : UpT q4 => cell_up t gb4
          by_cases hi' : i < x.length
          · have d1 : decide (x.length ≤ i) = false := by simp; omega
            by_cases hk' : k < y.length
            · have d2 : decide (k < y.length) = true := by simp; omega
              obtain ⟨g0, o0, A2, e2, rfl, _, hgl0, hc0, hc1, hc2, p0, p1, p2, _⟩ := atNode b00 hi'
              obtain ⟨g1, o1, A3, e3, rfl, _, hgl1, hd0, hd1, hd2, s0, s1, s2, _⟩ := atNode b01 hk'
              have cc := fun W (hW : Up w W) => c_l03Less y[k].1 x[i].1 y[k].2.1 x[i].2.1 A3 A2 e3 e2 W (s1.up good_S hW) (p1.up good_S hW)
              have HV : Hid (rightB x y i k = locLt (y[k].1, y[k].2.1) (x[i].1, x[i].2.1)) := by unfold Hid rightB; rw [dif_pos hi', dif_pos hk']; first | done | rfl
              generalize rightB x y i k = V at *
              have CC := Lib.hid cc
              have r3 := fun t : UpT q4 => cell_up t (((uw.trans u4).cell (cell_lt hc0)).trans hc0)
              have r4 := fun t : UpT q4 => cell_up t (((uw.trans u4).cell (cell_lt hc1)).trans hc1)
              have r5 := fun t : UpT q4 => cell_up t (((uw.trans u4).cell (cell_lt hd0)).trans hd0)
              have r6 := fun t : UpT q4 => cell_up t (((uw.trans u4).cell (cell_lt hd1)).trans hd1)
              clear cc hc0 hc1 hc2 hd0 hd1 hd2
              refine wp_region_up (by kernel_rfl) (by kernel_rfl) ?_
              repeat (go_big_quiet_step ((go_at_call 73; exact up_call (CC.out _ ((uw.trans u4).trans (UpT.up _))) (UpT.up _))))
              refine wpQuiet_nil ?_
              rintro w1 ⟨⟨w1', u1⟩, rfl⟩
              go_wp2_with fail
              go_meet
              exact ⟨by rw [HV.out]; first | done | rfl, u1⟩
            · have d2 : decide (k < y.length) = false := by simp; omega
              have HV : Hid (rightB x y i k = false) := by unfold Hid rightB; rw [dif_pos hi', dif_neg hk']
              generalize rightB x y i k = V at *
              refine wp_region_up (by kernel_rfl) (by kernel_rfl) ?_
              repeat (go_big_quiet_step (fail))
              refine wpQuiet_nil ?_
              rintro w1 ⟨⟨w1', u1⟩, rfl⟩
              go_wp2_with fail
              go_meet
              exact ⟨by rw [HV.out]; first | done | rfl, u1⟩
          · have d1 : decide (x.length ≤ i) = true := by simp; omega
            have HV : Hid (rightB x y i k = true) := by unfold Hid rightB; rw [dif_neg hi']
            generalize rightB x y i k = V at *
            refine wp_region_up (by kernel_rfl) (by kernel_rfl) ?_
            repeat (go_big_quiet_step (fail))
            refine wpQuiet_nil ?_
            rintro w1 ⟨⟨w1', u1⟩, rfl⟩
            go_wp2_with fail
            go_meet
            exact ⟨by rw [HV.out]; first | done | rfl, u1⟩
      obtain ⟨rfl, u5⟩ := hcut
      obtain ⟨q5, hq5⟩ : ∃ q5, q5 = wc := ⟨_, rfl⟩
      subst hq5
      have uq := u4.trans u5
      have uwq := uw.trans uq
      have gaq : q5.cell? ⟨w.heap.size, 0, none⟩ = some (.slice A0 x.length c0) := (ka.up uq).cell 0
      have gbq : q5.cell? ⟨w.heap.size + 1, 0, none⟩ = some (.slice A1 y.length c1) := (kb.up uq).cell 0
      have hord : (∃ h : i < x.length, leftB x y i k = true ∧ Hid (imgs (x.drop i) (y.drop k) = leftI x[i] :: imgs (x.drop (i + 1)) (y.drop k))) ∨ (∃ h : k < y.length, leftB x y i k = false ∧ rightB x y i k = true ∧ Hid (imgs (x.drop i) (y.drop k) = rightI y[k] :: imgs (x.drop i) (y.drop (k + 1)))) ∨
        (∃ (h1 : i < x.length) (h2 : k < y.length), leftB x y i k = false ∧ rightB x y i k = false ∧ Hid (imgs (x.drop i) (y.drop k) = if x[i].2.2 = y[k].2.2 then imgs (x.drop (i + 1)) (y.drop (k + 1)) else bothI x[i] y[k] :: imgs (x.drop (i + 1)) (y.drop (k + 1)))) := by
        by_cases hi' : i < x.length
        · by_cases hk' : k < y.length
          · rcases lo_loc.three (locOf x[i]) (locOf y[k]) with ⟨e1, e2, _, e4⟩ | ⟨e1, e2, e3, e4⟩ | ⟨e1, e2, _, e4⟩
            · exact .inl ⟨hi', by unfold leftB; rw [dif_pos hk', dif_pos hi', e1], imgs_lt hi' hk' e1⟩
            · exact .inr (.inr ⟨hi', hk', by unfold leftB; rw [dif_pos hk', dif_pos hi', e2], by unfold rightB; rw [dif_pos hi', dif_pos hk', e3], imgs_eq hi' hk' e2 e3⟩)
            · exact .inr (.inl ⟨hk', by unfold leftB; rw [dif_pos hk', dif_pos hi', e1], by unfold rightB; rw [dif_pos hi', dif_pos hk', e2], imgs_gt hi' hk' e1 e2⟩)
          · exact .inl ⟨hi', by unfold leftB; rw [dif_neg hk'], imgs_left hi' hk'⟩
        · have hk' : k < y.length := by omega
          exact .inr (.inl ⟨hk', by unfold leftB; rw [dif_pos hk', dif_neg hi'], by unfold rightB; rw [dif_neg hi'], imgs_right hi' hk'⟩)
      generalize leftB x y i k = LB at *
      generalize rightB x y i k = RB at *
      have SOQ := SOH.out.up good_Image uq
      have SOQH := Lib.hid SOQ
      clear SOQ ga gb ga4 gb4
      have hB9r := uq.size
      rename_i KK
      rcases hord with ⟨hi', rfl, HL⟩ | ⟨hk', rfl, rfl, HL⟩ | ⟨hi', hk', rfl, rfl, HL⟩
      · refine KK _ _ ?_
        refine img_l x y w W0 wr q5 A0 A1 c0 c1 i k D d X bl RB _ _ _ _ _ _ _ _ _ _ _ _ _ _ _ _ _ _ _ _ _ _ _ _ _ _ _ _ _ _ _ _ _ _ _ _ _ _ _ _ _ _ _ _ _ _ _ _ _ _ _ _ _ _ _ _ _ _ _ _ _ _ _ _ _ _ _ _ _ _ _ _ _ _ _ _ _ _ _ _ _ _ _ _ _ _ _ _ _ _ _ _ _ _ _ _ _ _ _ _ _ _ _ _ _ _ _ _ _ _ _ _ _ _ _ _ _ _ _ _ _ _ _ _ _ _ _ _ _ _ _ _ _ _ _ _ _ _ _ _ _ _ _ _ _ _ _ _ _ _ _ _ _ _ _ _ _ _ _ _ _ _ _ _ _ _ _ _ _ _ _ hx hy HXS HYS b00 b01 hs0 u0 hu uq uwq gaq gbq SOQH NDH hin HC hXl hxl2 hi hk hB9r hws hi' HL _ (Lib.hid ?_)
        intro i' k' D' d' X' bl' w2 z8 z9 z10 z11 z12 z13 z15 z16 z17 z18 z19 z20 z21 z22 z23 z24 z25 z26 z27 z28 z29 z30 z31 z32 z33 z34 z35 z36 z37 z38 z39 z40 z41 z42 z43 z44 z45 z46 z47 z48 z49 z50 z51 z52 z53 z54 z55 z56 z57 z58 z59 z60 z61 z62 z63 z64 z65 z66 z67 z68 z69 z70 z71 z72 z73 z74 z75 z76 z77 z78 z79 z80 z81 z82 z83 z84 z85 z86 z87 z88 z89 z90 z91 z92 z93 z94 z95 z96 z97 z98 z99 z100 z101 z102 z103 z104 z105 z106 z107 z108 z109 z110 z111 z112 z113 z114 z115 z116 z117 z118 z119 z120 z121 z122 z123 z124 z125 z126 z127 z128 z129 z130 z131 z132 z133 z134 z135 z136 z137 z138 z139 z140 z141 z142 z143 z144 z145 z146 z147 z148 z149 z150 z151 z152 z153 z154 z155 z156 z157 z158 z159 z160 z161 z162 z163 z164 z165 z166 z167 z168 z169 z170 z171 z172 z173 z174 z175 z176 hend
        obtain ⟨h1, h2, h3, h4, h5, h6, h7, h8⟩ := hend
        refine ⟨?_, ?_⟩
        · dsimp only
          (repeat apply Exists.intro)
          refine ⟨?_, rfl⟩
          exact ⟨i', k', D', d', X', bl', h1, h2, rfl, rfl, rfl, h3, h4, h5, h6, h7⟩
        · simp [intOf]; omega
      · refine KK _ _ ?_
        refine img_r x y w W0 wr q5 A0 A1 c0 c1 i k D d X bl true _ _ _ _ _ _ _ _ _ _ _ _ _ _ _ _ _ _ _ _ _ _ _ _ _ _ _ _ _ _ _ _ _ _ _ _ _ _ _ _ _ _ _ _ _ _ _ _ _ _ _ _ _ _ _ _ _ _ _ _ _ _ _ _ _ _ _ _ _ _ _ _ _ _ _ _ _ _ _ _ _ _ _ _ _ _ _ _ _ _ _ _ _ _ _ _ _ _ _ _ _ _ _ _ _ _ _ _ _ _ _ _ _ _ _ _ _ _ _ _ _ _ _ _ _ _ _ _ _ _ _ _ _ _ _ _ _ _ _ _ _ _ _ _ _ _ _ _ _ _ _ _ _ _ _ _ _ _ _ _ _ _ _ _ _ _ _ _ _ _ _ hx hy HXS HYS b00 b01 hs0 u0 hu uq uwq gaq gbq SOQH NDH hin HC hXl hxl2 hi hk hB9r hws hk' HL _ (Lib.hid ?_)
        intro i' k' D' d' X' bl' w2 z8 z9 z10 z11 z12 z13 z15 z16 z17 z18 z19 z20 z21 z22 z23 z24 z25 z26 z27 z28 z29 z30 z31 z32 z33 z34 z35 z36 z37 z38 z39 z40 z41 z42 z43 z44 z45 z46 z47 z48 z49 z50 z51 z52 z53 z54 z55 z56 z57 z58 z59 z60 z61 z62 z63 z64 z65 z66 z67 z68 z69 z70 z71 z72 z73 z74 z75 z76 z77 z78 z79 z80 z81 z82 z83 z84 z85 z86 z87 z88 z89 z90 z91 z92 z93 z94 z95 z96 z97 z98 z99 z100 z101 z102 z103 z104 z105 z106 z107 z108 z109 z110 z111 z112 z113 z114 z115 z116 z117 z118 z119 z120 z121 z122 z123 z124 z125 z126 z127 z128 z129 z130 z131 z132 z133 z134 z135 z136 z137 z138 z139 z140 z141 z142 z143 z144 z145 z146 z147 z148 z149 z150 z151 z152 z153 z154 z155 z156 z157 z158 z159 z160 z161 z162 z163 z164 z165 z166 z167 z168 z169 z170 z171 z172 z173 z174 z175 z176 hend
        obtain ⟨h1, h2, h3, h4, h5, h6, h7, h8⟩ := hend
        refine ⟨?_, ?_⟩
        · dsimp only
          (repeat apply Exists.intro)
          refine ⟨?_, rfl⟩
          exact ⟨i', k', D', d', X', bl', h1, h2, rfl, rfl, rfl, h3, h4, h5, h6, h7⟩
        · simp [intOf]; omega
      · refine KK _ _ ?_
        refine img_b x y w W0 wr q5 A0 A1 c0 c1 i k D d X bl true _ _ _ _ _ _ _ _ _ _ _ _ _ _ _ _ _ _ _ _ _ _ _ _ _ _ _ _ _ _ _ _ _ _ _ _ _ _ _ _ _ _ _ _ _ _ _ _ _ _ _ _ _ _ _ _ _ _ _ _ _ _ _ _ _ _ _ _ _ _ _ _ _ _ _ _ _ _ _ _ _ _ _ _ _ _ _ _ _ _ _ _ _ _ _ _ _ _ _ _ _ _ _ _ _ _ _ _ _ _ _ _ _ _ _ _ _ _ _ _ _ _ _ _ _ _ _ _ _ _ _ _ _ _ _ _ _ _ _ _ _ _ _ _ _ _ _ _ _ _ _ _ _ _ _ _ _ _ _ _ _ _ _ _ _ _ _ _ _ _ _ hx hy HXS HYS b00 b01 hs0 u0 hu uq uwq gaq gbq SOQH NDH hin HC hXl hxl2 hi hk hB9r hws hi' hk' HL _ (Lib.hid ?_)
        intro i' k' D' d' X' bl' w2 z8 z9 z10 z11 z12 z13 z15 z16 z17 z18 z19 z20 z21 z22 z23 z24 z25 z26 z27 z28 z29 z30 z31 z32 z33 z34 z35 z36 z37 z38 z39 z40 z41 z42 z43 z44 z45 z46 z47 z48 z49 z50 z51 z52 z53 z54 z55 z56 z57 z58 z59 z60 z61 z62 z63 z64 z65 z66 z67 z68 z69 z70 z71 z72 z73 z74 z75 z76 z77 z78 z79 z80 z81 z82 z83 z84 z85 z86 z87 z88 z89 z90 z91 z92 z93 z94 z95 z96 z97 z98 z99 z100 z101 z102 z103 z104 z105 z106 z107 z108 z109 z110 z111 z112 z113 z114 z115 z116 z117 z118 z119 z120 z121 z122 z123 z124 z125 z126 z127 z128 z129 z130 z131 z132 z133 z134 z135 z136 z137 z138 z139 z140 z141 z142 z143 z144 z145 z146 z147 z148 z149 z150 z151 z152 z153 z154 z155 z156 z157 z158 z159 z160 z161 z162 z163 z164 z165 z166 z167 z168 z169 z170 z171 z172 z173 z174 z175 z176 hend
        obtain ⟨h1, h2, h3, h4, h5, h6, h7, h8⟩ := hend
        refine ⟨?_, ?_⟩
        · dsimp only
          (repeat apply Exists.intro)
          refine ⟨?_, rfl⟩
          exact ⟨i', k', D', d', X', bl', h1, h2, rfl, rfl, rfl, h3, h4, h5, h6, h7⟩
        · simp [intOf]; omega
    · have HE : Hid (imgs x y = X) := by unfold Hid; rw [HC.out, imgs_end (by omega) (by omega), List.append_nil]
      have hi' : ¬ i < x.length := by omega
      have hk' : ¬ k < y.length := by omega
      go_wp2_with fail
      go_ret
      exact ⟨D, d, bl, by rw [HE.out]; first | done | rfl, by rw [HE.out]; exact SOH.out.wide good_Image (by omega) (Nat.le_refl _), NDH.out, uw⟩
end Go.Proofs.YtehhgogmbpdpbaaGreatDoor
