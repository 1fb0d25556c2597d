/-
  The reference's l19Images: a round at which the left tree's node comes first.
-/
import Derived.Test.YtehhgogmbpdpbaaGreatDoorM1Mja
namespace Go.Proofs.YtehhgogmbpdpbaaGreatDoor
open Go.RowKit
set_option linter.unusedVariables false
set_option linter.unusedSimpArgs false

set_option maxRecDepth 100000 in
set_option maxHeartbeats 8000000 in
theorem img_l (x y : TTree) (w W0 wr q5 : World) (A0 A1 : Option Addr) (c0' c1' : Nat) (i k : Nat) (D : Option Addr) (d : Nat) (X : List TImage) (bl : List Nat) (RB : Bool) (c0 c1 c4 c14 c177 u10 u11 u12 u13 u15 u16 u17 u18 u19 u20 u21 u22 u23 u24 u25 u26 u27 u28 u29 u30 u31 u32 u33 u34 u35 u36 u37 u38 u39 u40 u41 u42 u43 u44 u45 u46 u47 u48 u49 u50 u51 u52 u53 u54 u55 u56 u57 u58 u59 u60 u61 u62 u63 u64 u65 u66 u67 u68 u69 u70 u71 u72 u73 u74 u75 u76 u77 u78 u79 u80 u81 u82 u83 u84 u85 u86 u87 u88 u89 u90 u91 u92 u93 u94 u95 u96 u97 u98 u99 u100 u101 u102 u103 u104 u105 u106 u107 u108 u109 u110 u111 u112 u113 u114 u115 u116 u117 u118 u119 u120 u121 u122 u123 u124 u125 u126 u127 u128 u129 u130 u131 u132 u133 u134 u135 u136 u137 u138 u139 u140 u141 u142 u143 u144 u145 u146 u147 u148 u149 u150 u151 u152 u153 u154 u155 u156 u157 u158 u159 u160 u161 u162 u163 u164 u165 u166 u167 u168 u169 u170 u171 u172 u173 u174 u175 u176 : Value)
    (hx : x.length ≤ 120) (hy : y.length ≤ 120) (HXS : Hid (∀ i (h : i < x.length), x[i].2.1.length ≤ 1048576)) (HYS : Hid (∀ i (h : i < y.length), y[i].2.1.length ≤ 1048576)) (b00 : SRW shNode w A0 c0' x) (b01 : SRW shNode w A1 c1' y) (hs0 : W0.heap.size = w.heap.size + 2) (u0 : Up w W0) (hu : Up W0 wr) (uq : Up wr q5) (uwq : Up w q5)
    (gaq : q5.cell? ⟨w.heap.size, 0, none⟩ = some (.slice A0 x.length c0')) (gbq : q5.cell? ⟨w.heap.size + 1, 0, none⟩ = some (.slice A1 y.length c1')) (SOQH : Hid (SO shImage q5 (w.heap.size + 2) q5.heap.size D d X bl)) (NDH : Hid bl.Nodup) (hin : ∀ b ∈ bl, w.heap.size + 2 ≤ b ∧ b < wr.heap.size) (HC : Hid (imgs x y = X ++ imgs (x.drop i) (y.drop k)))
    (hXl : X.length ≤ i + k) (hxl2 : X.length ≤ 240) (hi : i ≤ x.length) (hk : k ≤ y.length) (hB9r : wr.heap.size ≤ q5.heap.size) (hws : W0.heap.size ≤ wr.heap.size) (hi' : i < x.length) (HL : Hid (imgs (x.drop i) (y.drop k) = leftI x[i] :: imgs (x.drop (i + 1)) (y.drop k)))
    (Q : Exit → Act → World → Prop) (HQ : Hid (∀ (i' k' : Nat) (D' : Option Addr) (d' : Nat) (X' : List TImage) (bl' : List Nat) (w2 : World) (z8 z9 z10 z11 z12 z13 z15 z16 z17 z18 z19 z20 z21 z22 z23 z24 z25 z26 z27 z28 z29 z30 z31 z32 z33 z34 z35 z36 z37 z38 z39 z40 z41 z42 z43 z44 z45 z46 z47 z48 z49 z50 z51 z52 z53 z54 z55 z56 z57 z58 z59 z60 z61 z62 z63 z64 z65 z66 z67 z68 z69 z70 z71 z72 z73 z74 z75 z76 z77 z78 z79 z80 z81 z82 z83 z84 z85 z86 z87 z88 z89 z90 z91 z92 z93 z94 z95 z96 z97 z98 z99 z100 z101 z102 z103 z104 z105 z106 z107 z108 z109 z110 z111 z112 z113 z114 z115 z116 z117 z118 z119 z120 z121 z122 z123 z124 z125 z126 z127 z128 z129 z130 z131 z132 z133 z134 z135 z136 z137 z138 z139 z140 z141 z142 z143 z144 z145 z146 z147 z148 z149 z150 z151 z152 z153 z154 z155 z156 z157 z158 z159 z160 z161 z162 z163 z164 z165 z166 z167 z168 z169 z170 z171 z172 z173 z174 z175 z176 : Value), ImgEnd x y w W0 i k i' k' D' d' X' bl' w2 → Q .normal ⟨#[c0, c1, .pointer (some ⟨w.heap.size, 0, none⟩), .pointer (some ⟨w.heap.size + 1, 0, none⟩), c4, .slice D' X'.length d', .int .i64 i', .int .i64 k', z8, z9, z10, z11, z12, z13, c14, z15, z16, z17, z18, z19, z20, z21, z22, z23, z24, z25, z26, z27, z28, z29, z30, z31, z32, z33, z34, z35, z36, z37, z38, z39, z40, z41, z42, z43, z44, z45, z46, z47, z48, z49, z50, z51, z52, z53, z54, z55, z56, z57, z58, z59, z60, z61, z62, z63, z64, z65, z66, z67, z68, z69, z70, z71, z72, z73, z74, z75, z76, z77, z78, z79, z80, z81, z82, z83, z84, z85, z86, z87, z88, z89, z90, z91, z92, z93, z94, z95, z96, z97, z98, z99, z100, z101, z102, z103, z104, z105, z106, z107, z108, z109, z110, z111, z112, z113, z114, z115, z116, z117, z118, z119, z120, z121, z122, z123, z124, z125, z126, z127, z128, z129, z130, z131, z132, z133, z134, z135, z136, z137, z138, z139, z140, z141, z142, z143, z144, z145, z146, z147, z148, z149, z150, z151, z152, z153, z154, z155, z156, z157, z158, z159, z160, z161, z162, z163, z164, z165, z166, z167, z168, z169, z170, z171, z172, z173, z174, z175, z176, c177], []⟩ w2)) :
    Code.wp Tryz.prog imgTail Q ⟨#[c0, c1, .pointer (some ⟨w.heap.size, 0, none⟩), .pointer (some ⟨w.heap.size + 1, 0, none⟩), c4, .slice D X.length d, .int .i64 i, .int .i64 k, .bool true, .bool RB, u10, u11, u12, u13, c14, u15, u16, u17, u18, u19, u20, u21, u22, u23, u24, u25, u26, u27, u28, u29, u30, u31, u32, u33, u34, u35, u36, u37, u38, u39, u40, u41, u42, u43, u44, u45, u46, u47, u48, u49, u50, u51, u52, u53, u54, u55, u56, u57, u58, u59, u60, u61, u62, u63, u64, u65, u66, u67, u68, u69, u70, u71, u72, u73, u74, u75, u76, u77, u78, u79, u80, u81, u82, u83, u84, u85, u86, u87, u88, u89, u90, u91, u92, u93, u94, u95, u96, u97, u98, u99, u100, u101, u102, u103, u104, u105, u106, u107, u108, u109, u110, u111, u112, u113, u114, u115, u116, u117, u118, u119, u120, u121, u122, u123, u124, u125, u126, u127, u128, u129, u130, u131, u132, u133, u134, u135, u136, u137, u138, u139, u140, u141, u142, u143, u144, u145, u146, u147, u148, u149, u150, u151, u152, u153, u154, u155, u156, u157, u158, u159, u160, u161, u162, u163, u164, u165, u166, u167, u168, u169, u170, u171, u172, u173, u174, u175, u176, c177], []⟩ q5 := by
  obtain ⟨i0, hi0, hz0, hz1, hz2⟩ := info_parts cinfo_ImageT
  conv => arg 2; whnf
  obtain ⟨g0, o0, A2, e2, rfl, _, _, hc0, hc1, hc2, p0, p1, p2, _⟩ := atNode b00 hi'
  have n0 := (uwq.cell (cell_lt hc0)).trans hc0
  have n1 := (uwq.cell (cell_lt hc1)).trans hc1
  have n2 := (uwq.cell (cell_lt hc2)).trans hc2
  have hls := HXS.out i hi'
  obtain ⟨WP, hWP⟩ : ∃ WP, WP = q5.alloc (.cells #[.string x[i].1, .slice A2 x[i].2.1.length e2, .string x[i].2.2] 119) := ⟨_, rfl⟩
  have uP5 : Up q5 WP := by rw [hWP]; exact (Up.refl q5).alloc _
  have kn : Bk WP q5.heap.size 119 #[.string x[i].1, .slice A2 x[i].2.1.length e2, .string x[i].2.2] := by rw [hWP]; exact Bk.new _ _ _
  have uwP := uwq.trans uP5
  clear hc0 hc1 hc2
  go_upto_region 13 with fail
  rw [← hWP]
  clear hWP
  have HS0 : Hid (WP.cell? ⟨q5.heap.size, 0, none⟩ = some (.string x[i].1) ∧ WP.cell? ⟨q5.heap.size, 1, none⟩ = some (.slice A2 x[i].2.1.length e2) ∧ WP.cell? ⟨q5.heap.size, 2, none⟩ = some (.string x[i].2.2)) := ⟨kn.cell 0, kn.cell 1, kn.cell 2⟩
  have hx1 : (X.length + [leftI x[i]].length) * i0.bytes ≤ 140737488355328 := by rw [hz2]; simp; omega
  have hx2 : X.length + [leftI x[i]].length ≤ maxLen := by simp; unfold maxLen; omega
  have hPs := uP5.size
  have hnd : ∀ be : List Nat, be.Nodup → (∀ z ∈ be, WP.heap.size ≤ z) → (bl ++ [be].flatten).Nodup := fun be h1 h2 => by
    simpa using nodup_two (m := wr.heap.size) NDH.out h1 (fun z hz => (hin z hz).2) (fun z hz => by have := h2 z hz; omega)
  have SOP := Lib.hid (SOQH.out.up good_Image uP5)
  have b1w := fun W (hW : Up WP W) => SR.up good_S p1 (uwP.trans hW)
  have B1W := Lib.hid b1w
  have HLS := Lib.hid hls
  clear b1w
  go_wp2_with fail
  go_region_held3 (fun W => W.cell? ⟨q5.heap.size, 0, none⟩ = some (.string x[i].1) ∧ W.cell? ⟨q5.heap.size, 1, none⟩ = some (.slice A2 x[i].2.1.length e2) ∧ W.cell? ⟨q5.heap.size, 2, none⟩ = some (.string x[i].2.2))
    (first | (with_reducible first | exact up3 (Up.refl WP).drew HS0.out | exact up3 uu1 HS0.out | exact up3 (uu1.alloc _) HS0.out) | exact ⟨k2kn.cell 0, k2kn.cell 1, k2kn.cell 2⟩)
    (first
      | (go_at_call 74
         (with_reducible refine (c_l03Subs x[i].2.1 A2 e2 _ (B1W.out _ (Up.refl WP).drew) HLS.out).mono ?_)
         rintro e w1 ⟨E1, e1, bln, rfl, on, ndn, un⟩
         have uu1 : Up WP w1 := (Up.refl WP).drew.trans un
         have nb := hnd _ ndn (fun y hy => Nat.le_trans (by simp) (on.in_ good_S y hy).1)
         have hs1 : ∀ W, Up w1 W → w.heap.size + 2 ≤ W.heap.size := fun W hW => by have h1 := (uu1.trans hW).size; omega
         have ro : ∀ W, Up w1 W → Rowed shImage W (w.heap.size + 2) W.heap.size [.string x[i].1, .slice E1 x[i].2.1.length e1, .bool true, .string x[i].2.2, .bool false, .string ⟨#[]⟩] [leftI x[i]] [bln] := fun W hW => Rowed.one good_Image (mkOImage (x := leftI x[i]) p0 ((on.up good_S hW).wide good_S (by simp; omega) (Nat.le_refl _)) p2 (by show (0 : Nat) ≤ _; exact Nat.zero_le _))
         have s1 : ∀ W, Up w1 W → SO shImage W (w.heap.size + 2) W.heap.size D d X bl := fun W hW => SOP.out.up good_Image (uu1.trans hW))
      | (refine step_app good_Image rfl _ _ _ _ 76 rfl i0 _ Tryz.underlying28 hi0 hz0 hz1 (by rfl) (lo := w.heap.size + 2) (xs := X) (ys := [leftI x[i]]) (bl := bl) (bs := [bln]) (news := [.string x[i].1, .slice E1 x[i].2.1.length e1, .bool true, .string x[i].2.2, .bool false, .string ⟨#[]⟩]) rfl rfl (s1 _ ((Up.refl w1).alloc _)) nb (Src.box (t := 76) (cs := [.string x[i].1, .slice E1 x[i].2.1.length e1, .bool true, .string x[i].2.2, .bool false, .string ⟨#[]⟩]) Tryz.underlying28 (Bk.new w1 76 #[.string x[i].1, .slice E1 x[i].2.1.length e1, .bool true, .string x[i].2.2, .bool false, .string ⟨#[]⟩]) (by simp [Value.oneCell']) (by rw [hz1]; rfl)) (ro _ ((Up.refl w1).alloc _)) (hs1 _ ((Up.refl w1).alloc _)) hx1 hx2 ?_
         intro D' d' bl' w2 hap
         obtain ⟨so2, nd2, mem2, on2⟩ := hap
         have k2kn := ((kn.up uu1).alloc (.cells #[.string x[i].1, .slice E1 x[i].2.1.length e1, .bool true, .string x[i].2.2, .bool false, .string ⟨#[]⟩] 76)).only on2 (fun hm => by have := (hin _ hm).2; omega)
         have uw2 : Up W0 w2 := Up.only (((hu.trans (uq.trans uP5)).trans uu1).alloc (.cells #[.string x[i].1, .slice E1 x[i].2.1.length e1, .bool true, .string x[i].2.2, .bool false, .string ⟨#[]⟩] 76)) on2 (fun y hy => by have := (hin y hy).1; omega)))
  all_goals
    go_wp2_with fail
    exact img_fin HQ (i' := i + 1) (k' := k) (X' := X ++ [leftI x[i]]) (by go_num) (by go_num) (by simp) ⟨by omega, by omega, so2, nd2, uw2, by simp; omega, (by unfold Hid; rw [HC.out, HL.out]; simp), by omega⟩
end Go.Proofs.YtehhgogmbpdpbaaGreatDoor
