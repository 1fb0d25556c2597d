/-
  The reference's l19Images: a round at which both trees have a node at one place.
-/
import Derived.Test.YtehhgogmbpdpbaaGreatDoorM1Mja
namespace Go.Proofs.YtehhgogmbpdpbaaGreatDoor
open Go.RowKit
set_option linter.unusedVariables false
set_option linter.unusedSimpArgs false

set_option maxRecDepth 100000 in
set_option maxHeartbeats 8000000 in
theorem img_b (x y : TTree) (w W0 wr q5 : World) (A0 A1 : Option Addr) (c0' c1' : Nat) (i k : Nat) (D : Option Addr) (d : Nat) (X : List TImage) (bl : List Nat) (RB : Bool) (c0 c1 c4 c14 c177 u10 u11 u12 u13 u15 u16 u17 u18 u19 u20 u21 u22 u23 u24 u25 u26 u27 u28 u29 u30 u31 u32 u33 u34 u35 u36 u37 u38 u39 u40 u41 u42 u43 u44 u45 u46 u47 u48 u49 u50 u51 u52 u53 u54 u55 u56 u57 u58 u59 u60 u61 u62 u63 u64 u65 u66 u67 u68 u69 u70 u71 u72 u73 u74 u75 u76 u77 u78 u79 u80 u81 u82 u83 u84 u85 u86 u87 u88 u89 u90 u91 u92 u93 u94 u95 u96 u97 u98 u99 u100 u101 u102 u103 u104 u105 u106 u107 u108 u109 u110 u111 u112 u113 u114 u115 u116 u117 u118 u119 u120 u121 u122 u123 u124 u125 u126 u127 u128 u129 u130 u131 u132 u133 u134 u135 u136 u137 u138 u139 u140 u141 u142 u143 u144 u145 u146 u147 u148 u149 u150 u151 u152 u153 u154 u155 u156 u157 u158 u159 u160 u161 u162 u163 u164 u165 u166 u167 u168 u169 u170 u171 u172 u173 u174 u175 u176 : Value)
    (hx : x.length ≤ 120) (hy : y.length ≤ 120) (HXS : Hid (∀ i (h : i < x.length), x[i].2.1.length ≤ 1048576)) (HYS : Hid (∀ i (h : i < y.length), y[i].2.1.length ≤ 1048576)) (b00 : SRW shNode w A0 c0' x) (b01 : SRW shNode w A1 c1' y) (hs0 : W0.heap.size = w.heap.size + 2) (u0 : Up w W0) (hu : Up W0 wr) (uq : Up wr q5) (uwq : Up w q5)
    (gaq : q5.cell? ⟨w.heap.size, 0, none⟩ = some (.slice A0 x.length c0')) (gbq : q5.cell? ⟨w.heap.size + 1, 0, none⟩ = some (.slice A1 y.length c1')) (SOQH : Hid (SO shImage q5 (w.heap.size + 2) q5.heap.size D d X bl)) (NDH : Hid bl.Nodup) (hin : ∀ b ∈ bl, w.heap.size + 2 ≤ b ∧ b < wr.heap.size) (HC : Hid (imgs x y = X ++ imgs (x.drop i) (y.drop k)))
    (hXl : X.length ≤ i + k) (hxl2 : X.length ≤ 240) (hi : i ≤ x.length) (hk : k ≤ y.length) (hB9r : wr.heap.size ≤ q5.heap.size) (hws : W0.heap.size ≤ wr.heap.size) (hi' : i < x.length) (hk' : k < y.length) (HL : Hid (imgs (x.drop i) (y.drop k) = if x[i].2.2 = y[k].2.2 then imgs (x.drop (i + 1)) (y.drop (k + 1)) else bothI x[i] y[k] :: imgs (x.drop (i + 1)) (y.drop (k + 1))))
    (Q : Exit → Act → World → Prop) (HQ : Hid (∀ (i' k' : Nat) (D' : Option Addr) (d' : Nat) (X' : List TImage) (bl' : List Nat) (w2 : World) (z8 z9 z10 z11 z12 z13 z15 z16 z17 z18 z19 z20 z21 z22 z23 z24 z25 z26 z27 z28 z29 z30 z31 z32 z33 z34 z35 z36 z37 z38 z39 z40 z41 z42 z43 z44 z45 z46 z47 z48 z49 z50 z51 z52 z53 z54 z55 z56 z57 z58 z59 z60 z61 z62 z63 z64 z65 z66 z67 z68 z69 z70 z71 z72 z73 z74 z75 z76 z77 z78 z79 z80 z81 z82 z83 z84 z85 z86 z87 z88 z89 z90 z91 z92 z93 z94 z95 z96 z97 z98 z99 z100 z101 z102 z103 z104 z105 z106 z107 z108 z109 z110 z111 z112 z113 z114 z115 z116 z117 z118 z119 z120 z121 z122 z123 z124 z125 z126 z127 z128 z129 z130 z131 z132 z133 z134 z135 z136 z137 z138 z139 z140 z141 z142 z143 z144 z145 z146 z147 z148 z149 z150 z151 z152 z153 z154 z155 z156 z157 z158 z159 z160 z161 z162 z163 z164 z165 z166 z167 z168 z169 z170 z171 z172 z173 z174 z175 z176 : Value), ImgEnd x y w W0 i k i' k' D' d' X' bl' w2 → Q .normal ⟨#[c0, c1, .pointer (some ⟨w.heap.size, 0, none⟩), .pointer (some ⟨w.heap.size + 1, 0, none⟩), c4, .slice D' X'.length d', .int .i64 i', .int .i64 k', z8, z9, z10, z11, z12, z13, c14, z15, z16, z17, z18, z19, z20, z21, z22, z23, z24, z25, z26, z27, z28, z29, z30, z31, z32, z33, z34, z35, z36, z37, z38, z39, z40, z41, z42, z43, z44, z45, z46, z47, z48, z49, z50, z51, z52, z53, z54, z55, z56, z57, z58, z59, z60, z61, z62, z63, z64, z65, z66, z67, z68, z69, z70, z71, z72, z73, z74, z75, z76, z77, z78, z79, z80, z81, z82, z83, z84, z85, z86, z87, z88, z89, z90, z91, z92, z93, z94, z95, z96, z97, z98, z99, z100, z101, z102, z103, z104, z105, z106, z107, z108, z109, z110, z111, z112, z113, z114, z115, z116, z117, z118, z119, z120, z121, z122, z123, z124, z125, z126, z127, z128, z129, z130, z131, z132, z133, z134, z135, z136, z137, z138, z139, z140, z141, z142, z143, z144, z145, z146, z147, z148, z149, z150, z151, z152, z153, z154, z155, z156, z157, z158, z159, z160, z161, z162, z163, z164, z165, z166, z167, z168, z169, z170, z171, z172, z173, z174, z175, z176, c177], []⟩ w2)) :
    Code.wp Tryz.prog imgTail Q ⟨#[c0, c1, .pointer (some ⟨w.heap.size, 0, none⟩), .pointer (some ⟨w.heap.size + 1, 0, none⟩), c4, .slice D X.length d, .int .i64 i, .int .i64 k, .bool false, .bool false, u10, u11, u12, u13, c14, u15, u16, u17, u18, u19, u20, u21, u22, u23, u24, u25, u26, u27, u28, u29, u30, u31, u32, u33, u34, u35, u36, u37, u38, u39, u40, u41, u42, u43, u44, u45, u46, u47, u48, u49, u50, u51, u52, u53, u54, u55, u56, u57, u58, u59, u60, u61, u62, u63, u64, u65, u66, u67, u68, u69, u70, u71, u72, u73, u74, u75, u76, u77, u78, u79, u80, u81, u82, u83, u84, u85, u86, u87, u88, u89, u90, u91, u92, u93, u94, u95, u96, u97, u98, u99, u100, u101, u102, u103, u104, u105, u106, u107, u108, u109, u110, u111, u112, u113, u114, u115, u116, u117, u118, u119, u120, u121, u122, u123, u124, u125, u126, u127, u128, u129, u130, u131, u132, u133, u134, u135, u136, u137, u138, u139, u140, u141, u142, u143, u144, u145, u146, u147, u148, u149, u150, u151, u152, u153, u154, u155, u156, u157, u158, u159, u160, u161, u162, u163, u164, u165, u166, u167, u168, u169, u170, u171, u172, u173, u174, u175, u176, c177], []⟩ q5 := by
  obtain ⟨i0, hi0, hz0, hz1, hz2⟩ := info_parts cinfo_ImageT
  conv => arg 2; whnf
  obtain ⟨g0, o0, A2, e2, rfl, _, _, hc0, hc1, hc2, p0, p1, p2, _⟩ := atNode b00 hi'
  obtain ⟨g1, o1, A3, e3, rfl, _, _, hd0, hd1, hd2, s0, s1, s2, _⟩ := atNode b01 hk'
  have H8 : Hid (q5.cell? ⟨w.heap.size, 0, none⟩ = some (.slice (some ⟨g0, o0, none⟩) x.length c0') ∧ q5.cell? ⟨w.heap.size + 1, 0, none⟩ = some (.slice (some ⟨g1, o1, none⟩) y.length c1') ∧ q5.cell? ⟨g0, o0 + i * 3, none⟩ = some (.string x[i].1) ∧ q5.cell? ⟨g0, o0 + i * 3 + 1, none⟩ = some (.slice A2 x[i].2.1.length e2) ∧ q5.cell? ⟨g0, o0 + i * 3 + 2, none⟩ = some (.string x[i].2.2) ∧ q5.cell? ⟨g1, o1 + k * 3, none⟩ = some (.string y[k].1) ∧ q5.cell? ⟨g1, o1 + k * 3 + 1, none⟩ = some (.slice A3 y[k].2.1.length e3) ∧ q5.cell? ⟨g1, o1 + k * 3 + 2, none⟩ = some (.string y[k].2.2)) := ⟨gaq, gbq, (uwq.cell (cell_lt hc0)).trans hc0, (uwq.cell (cell_lt hc1)).trans hc1, (uwq.cell (cell_lt hc2)).trans hc2, (uwq.cell (cell_lt hd0)).trans hd0, (uwq.cell (cell_lt hd1)).trans hd1, (uwq.cell (cell_lt hd2)).trans hd2⟩
  have hls := HXS.out i hi'
  clear hc0 hc1 hc2 hd0 hd1 hd2
  have TA := two_boxes q5 119 #[.string x[i].1, .slice A2 x[i].2.1.length e2, .string x[i].2.2] #[.string y[k].1, .slice A3 y[k].2.1.length e3, .string y[k].2.2]
  have TB := two_boxes q5 119 #[.string y[k].1, .slice A3 y[k].2.1.length e3, .string y[k].2.2] #[.string x[i].1, .slice A2 x[i].2.1.length e2, .string x[i].2.2]
  go_upto_region 6 with fail
  go_cut [12, 13] from 105 to 115 (fun s12 s13 wx => ∃ g12 g13 : Nat, s12 = .pointer (some ⟨g12, 0, none⟩) ∧ s13 = .pointer (some ⟨g13, 0, none⟩) ∧ Bk wx g12 119 #[.string x[i].1, .slice A2 x[i].2.1.length e2, .string x[i].2.2] ∧ Bk wx g13 119 #[.string y[k].1, .slice A3 y[k].2.1.length e3, .string y[k].2.2] ∧ Up q5 wx ∧ q5.heap.size ≤ g12 ∧ q5.heap.size ≤ g13)
  case first =>
    go_region_held3 (fun W => W.cell? ⟨w.heap.size, 0, none⟩ = some (.slice (some ⟨g0, o0, none⟩) x.length c0') ∧ W.cell? ⟨w.heap.size + 1, 0, none⟩ = some (.slice (some ⟨g1, o1, none⟩) y.length c1') ∧ W.cell? ⟨g0, o0 + i * 3, none⟩ = some (.string x[i].1) ∧ W.cell? ⟨g0, o0 + i * 3 + 1, none⟩ = some (.slice A2 x[i].2.1.length e2) ∧ W.cell? ⟨g0, o0 + i * 3 + 2, none⟩ = some (.string x[i].2.2) ∧ W.cell? ⟨g1, o1 + k * 3, none⟩ = some (.string y[k].1) ∧ W.cell? ⟨g1, o1 + k * 3 + 1, none⟩ = some (.slice A3 y[k].2.1.length e3) ∧ W.cell? ⟨g1, o1 + k * 3 + 2, none⟩ = some (.string y[k].2.2))
      (with_reducible first | exact up8 (Up.refl q5).drew H8.out | exact up8 ((Up.refl q5).alloc _).drew H8.out | exact up8 (((Up.refl q5).alloc _).alloc _).drew H8.out)
      (fail)
    all_goals
      go_wp2_with fail
      go_meet
      with_reducible first
        | exact ⟨_, _, rfl, rfl, TA.1, TA.2.1, TA.2.2, Nat.le_refl _, Nat.le_succ _⟩
        | exact ⟨_, _, rfl, rfl, TB.2.1, TB.1, TB.2.2, Nat.le_succ _, Nat.le_refl _⟩
  clear TA TB
  obtain ⟨g12, g13, rfl, rfl, k12, k13, u6, h12, h13⟩ := hcut
  obtain ⟨q6, hq6⟩ : ∃ q6, q6 = wc := ⟨_, rfl⟩
  subst hq6
  have uP5 := u6
  have uw6 := uwq.trans u6
  have w2 := k12.cell 2
  have w3 := k13.cell 2
  by_cases hvv : x[i].2.2 = y[k].2.2
  · have hve : (x[i].2.2.toList == y[k].2.2.toList) = true := by rw [str_beq]; simp [hvv]
    have HN : Hid (imgs (x.drop i) (y.drop k) = imgs (x.drop (i + 1)) (y.drop (k + 1))) := by unfold Hid; rw [HL.out, if_pos hvv]
    have SOX := Lib.hid (SOQH.out.up good_Image u6)
    clear hvv
    go_wp2_with fail
    exact img_fin HQ (i' := i + 1) (k' := k + 1) (X' := X) (by go_num) (by go_num) rfl ⟨by omega, by omega, SOX.out, NDH.out, (hu.trans (uq.trans u6)), by omega, (by unfold Hid; rw [HC.out, HN.out]), by omega⟩
  · have hve : (x[i].2.2.toList == y[k].2.2.toList) = false := by rw [str_beq]; simp [hvv]
    have HN : Hid (imgs (x.drop i) (y.drop k) = bothI x[i] y[k] :: imgs (x.drop (i + 1)) (y.drop (k + 1))) := by unfold Hid; rw [HL.out, if_neg hvv]
    have HCN : Hid (imgs x y = (X ++ [bothI x[i] y[k]]) ++ imgs (x.drop (i + 1)) (y.drop (k + 1))) := by unfold Hid; rw [HC.out, HN.out]; simp
    have s2' := s2
    have p1' := p1
    clear hvv H8 gaq gbq HL HN HC HXS HYS b00 b01 p1 s1 s0 s2
    have p1 := p1'
    have s2 := s2'
    clear p1' s2'
    go_upto_region 8 with fail
    clear w3 w2 hve
    have HS0 : Hid (q6.cell? ⟨g12, 0, none⟩ = some (.string x[i].1) ∧ q6.cell? ⟨g12, 1, none⟩ = some (.slice A2 x[i].2.1.length e2) ∧ q6.cell? ⟨g12, 2, none⟩ = some (.string x[i].2.2) ∧ q6.cell? ⟨g13, 2, none⟩ = some (.string y[k].2.2)) := ⟨k12.cell 0, k12.cell 1, k12.cell 2, k13.cell 2⟩
    have hx1 : (X.length + [bothI x[i] y[k]].length) * i0.bytes ≤ 140737488355328 := by rw [hz2]; simp; omega
    have hx2 : X.length + [bothI x[i] y[k]].length ≤ maxLen := by simp; unfold maxLen; omega
    have hPs := uP5.size
    have hnd : ∀ be : List Nat, be.Nodup → (∀ z ∈ be, q6.heap.size ≤ z) → (bl ++ [be].flatten).Nodup := fun be h1 h2 => by
      simpa using nodup_two (m := wr.heap.size) NDH.out h1 (fun z hz => (hin z hz).2) (fun z hz => by have := h2 z hz; omega)
    have SOP := Lib.hid (SOQH.out.up good_Image uP5)
    have b1w := fun W (hW : Up q6 W) => SR.up good_S p1 (uw6.trans hW)
    have B1W := Lib.hid b1w
    have HLS := Lib.hid hls
    clear b1w
    go_wp2_with fail
    go_region_held3 (fun W => W.cell? ⟨g12, 0, none⟩ = some (.string x[i].1) ∧ W.cell? ⟨g12, 1, none⟩ = some (.slice A2 x[i].2.1.length e2) ∧ W.cell? ⟨g12, 2, none⟩ = some (.string x[i].2.2) ∧ W.cell? ⟨g13, 2, none⟩ = some (.string y[k].2.2))
      (first | (with_reducible first | exact up4m (Up.refl q6).drew HS0.out | exact up4m uu1 HS0.out | exact up4m (uu1.alloc _) HS0.out) | exact ⟨k2k12.cell 0, k2k12.cell 1, k2k12.cell 2, k2k13.cell 2⟩)
      (first
        | (go_at_call 74
           (with_reducible refine (c_l03Subs x[i].2.1 A2 e2 _ (B1W.out _ (Up.refl q6).drew) HLS.out).mono ?_)
           rintro e w1 ⟨E1, e1, bln, rfl, on, ndn, un⟩
           have uu1 : Up q6 w1 := (Up.refl q6).drew.trans un
           have nb := hnd _ ndn (fun y hy => Nat.le_trans (by simp) (on.in_ good_S y hy).1)
           have hs1 : ∀ W, Up w1 W → w.heap.size + 2 ≤ W.heap.size := fun W hW => by have h1 := (uu1.trans hW).size; omega
           have ro : ∀ W, Up w1 W → Rowed shImage W (w.heap.size + 2) W.heap.size [.string x[i].1, .slice E1 x[i].2.1.length e1, .bool true, .string x[i].2.2, .bool true, .string y[k].2.2] [bothI x[i] y[k]] [bln] := fun W hW => Rowed.one good_Image (mkOImage (x := bothI x[i] y[k]) p0 ((on.up good_S hW).wide good_S (by simp; omega) (Nat.le_refl _)) p2 s2)
           have s1 : ∀ W, Up w1 W → SO shImage W (w.heap.size + 2) W.heap.size D d X bl := fun W hW => SOP.out.up good_Image (uu1.trans hW))
        | (refine step_app good_Image rfl _ _ _ _ 76 rfl i0 _ Tryz.underlying28 hi0 hz0 hz1 (by rfl) (lo := w.heap.size + 2) (xs := X) (ys := [bothI x[i] y[k]]) (bl := bl) (bs := [bln]) (news := [.string x[i].1, .slice E1 x[i].2.1.length e1, .bool true, .string x[i].2.2, .bool true, .string y[k].2.2]) rfl rfl (s1 _ ((Up.refl w1).alloc _)) nb (Src.box (t := 76) (cs := [.string x[i].1, .slice E1 x[i].2.1.length e1, .bool true, .string x[i].2.2, .bool true, .string y[k].2.2]) Tryz.underlying28 (Bk.new w1 76 #[.string x[i].1, .slice E1 x[i].2.1.length e1, .bool true, .string x[i].2.2, .bool true, .string y[k].2.2]) (by simp [Value.oneCell']) (by rw [hz1]; rfl)) (ro _ ((Up.refl w1).alloc _)) (hs1 _ ((Up.refl w1).alloc _)) hx1 hx2 ?_
           intro D' d' bl' w2 hap
           obtain ⟨so2, nd2, mem2, on2⟩ := hap
           have k2k12 := ((k12.up uu1).alloc (.cells #[.string x[i].1, .slice E1 x[i].2.1.length e1, .bool true, .string x[i].2.2, .bool true, .string y[k].2.2] 76)).only on2 (fun hm => by have := (hin _ hm).2; omega)
           have k2k13 := ((k13.up uu1).alloc (.cells #[.string x[i].1, .slice E1 x[i].2.1.length e1, .bool true, .string x[i].2.2, .bool true, .string y[k].2.2] 76)).only on2 (fun hm => by have := (hin _ hm).2; omega)
           have uw2 : Up W0 w2 := Up.only (((hu.trans (uq.trans uP5)).trans uu1).alloc (.cells #[.string x[i].1, .slice E1 x[i].2.1.length e1, .bool true, .string x[i].2.2, .bool true, .string y[k].2.2] 76)) on2 (fun y hy => by have := (hin y hy).1; omega)))
    all_goals
      go_wp2_with fail
      exact img_fin HQ (i' := i + 1) (k' := k + 1) (X' := X ++ [bothI x[i] y[k]]) (by go_num) (by go_num) (by simp) ⟨by omega, by omega, so2, nd2, uw2, by simp; omega, (HCN), by omega⟩
end Go.Proofs.YtehhgogmbpdpbaaGreatDoor
