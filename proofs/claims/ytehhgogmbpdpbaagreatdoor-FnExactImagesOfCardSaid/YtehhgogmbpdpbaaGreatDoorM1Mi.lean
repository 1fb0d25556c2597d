/-
  The images of what two trees have not alike: plain, and the program's imagesOf.
-/
import Derived.Test.YtehhgogmbpdpbaaGreatDoorM1Rl
import Derived.Test.YtehhgogmbpdpbaaGreatDoorM1Lo
import Derived.Test.YtehhgogmbpdpbaaGreatDoorM1H
import Derived.Test.YtehhgogmbpdpbaaGreatDoorM1Kn
import Derived.Deep.RegionHeld3
import Derived.Deep.DeepCutAuto
import Derived.Deep.CutBlock
namespace Go.Proofs.YtehhgogmbpdpbaaGreatDoor
open Go.RowKit
set_option linter.unusedVariables false
set_option linter.unusedSimpArgs false

def leftI (n : TNode) : TImage := (n.1, n.2.1, true, n.2.2, false, ⟨#[]⟩)
def rightI (n : TNode) : TImage := (n.1, n.2.1, false, ⟨#[]⟩, true, n.2.2)
def bothI (n m : TNode) : TImage := (n.1, n.2.1, true, n.2.2, true, m.2.2)
def imgs : TTree → TTree → List TImage
  | [], [] => []
  | n :: a, [] => leftI n :: imgs a []
  | [], m :: b => rightI m :: imgs [] b
  | n :: a, m :: b => if locLt (locOf n) (locOf m) = true then leftI n :: imgs a (m :: b) else if locLt (locOf m) (locOf n) = true then rightI m :: imgs (n :: a) b else if n.2.2 = m.2.2 then imgs a b else bothI n m :: imgs a b
termination_by a b => a.length + b.length
def imagesOf (x : TTree) (l : List TChange) : List TImage := if (doChanges x l).2 = 0 then imgs x (doChanges x l).1 else []
def imagesC (x : TTree) (l : List TChange) : Int := (doChanges x l).2
section
variable {a b : TTree} {i k : Nat}
theorem imgs_end (h1 : ¬ i < a.length) (h2 : ¬ k < b.length) : imgs (a.drop i) (b.drop k) = [] := by
  rw [List.drop_eq_nil_of_le (by omega), List.drop_eq_nil_of_le (by omega), imgs]
theorem imgs_left (h1 : i < a.length) (h2 : ¬ k < b.length) : imgs (a.drop i) (b.drop k) = leftI a[i] :: imgs (a.drop (i + 1)) (b.drop k) := by
  rw [List.drop_eq_getElem_cons h1, List.drop_eq_nil_of_le (show b.length ≤ k by omega), imgs]
theorem imgs_right (h1 : ¬ i < a.length) (h2 : k < b.length) : imgs (a.drop i) (b.drop k) = rightI b[k] :: imgs (a.drop i) (b.drop (k + 1)) := by
  rw [List.drop_eq_getElem_cons h2, List.drop_eq_nil_of_le (show a.length ≤ i by omega), imgs]
theorem imgs_lt (h1 : i < a.length) (h2 : k < b.length) (h : locLt (locOf a[i]) (locOf b[k]) = true) : imgs (a.drop i) (b.drop k) = leftI a[i] :: imgs (a.drop (i + 1)) (b.drop k) := by
  rw [List.drop_eq_getElem_cons h1, List.drop_eq_getElem_cons h2, imgs, if_pos h]
theorem imgs_gt (h1 : i < a.length) (h2 : k < b.length) (h0 : locLt (locOf a[i]) (locOf b[k]) = false) (h : locLt (locOf b[k]) (locOf a[i]) = true) : imgs (a.drop i) (b.drop k) = rightI b[k] :: imgs (a.drop i) (b.drop (k + 1)) := by
  rw [List.drop_eq_getElem_cons h1, List.drop_eq_getElem_cons h2, imgs, if_neg (by rw [h0]; simp), if_pos h]
theorem imgs_eq (h1 : i < a.length) (h2 : k < b.length) (h0 : locLt (locOf a[i]) (locOf b[k]) = false) (h : locLt (locOf b[k]) (locOf a[i]) = false) : imgs (a.drop i) (b.drop k) = if a[i].2.2 = b[k].2.2 then imgs (a.drop (i + 1)) (b.drop (k + 1)) else bothI a[i] b[k] :: imgs (a.drop (i + 1)) (b.drop (k + 1)) := by
  rw [List.drop_eq_getElem_cons h1, List.drop_eq_getElem_cons h2, imgs, if_neg (by rw [h0]; simp), if_neg (by rw [h]; simp)]
end
theorem imgs_len : ∀ (a b : TTree), (imgs a b).length ≤ a.length + b.length
  | [], [] => by rw [imgs]; simp
  | n :: a, [] => by
    have := imgs_len a []
    rw [imgs]
    simp only [List.length_cons, List.length_nil] at *
    omega
  | [], m :: b => by
    have := imgs_len [] b
    rw [imgs]
    simp only [List.length_cons, List.length_nil] at *
    omega
  | n :: a, m :: b => by
    have h1 := imgs_len a (m :: b)
    have h2 := imgs_len (n :: a) b
    have h3 := imgs_len a b
    rw [imgs]
    simp only [List.length_cons] at *
    split
    · simp only [List.length_cons]; omega
    · split
      · simp only [List.length_cons]; omega
      · split
        · omega
        · simp only [List.length_cons]; omega
termination_by a b => a.length + b.length
theorem cinfo_ImageT : (Tryz.prog.info? 76).map (fun i => (i.zero, i.size, i.bytes)) = some (some (.agg #[.string ⟨#[]⟩, .slice none 0 0, .bool false, .string ⟨#[]⟩, .bool false, .string ⟨#[]⟩]), 6, 88) := by kernel_rfl
theorem up6c {w w' : World} (u : Up w w') {a b c d e f : Addr} {x y z r s t : Value} (h : w.cell? a = some x ∧ w.cell? b = some y ∧ w.cell? c = some z ∧ w.cell? d = some r ∧ w.cell? e = some s ∧ w.cell? f = some t) :
    w'.cell? a = some x ∧ w'.cell? b = some y ∧ w'.cell? c = some z ∧ w'.cell? d = some r ∧ w'.cell? e = some s ∧ w'.cell? f = some t :=
  ⟨(u.cell (cell_lt h.1)).trans h.1, (u.cell (cell_lt h.2.1)).trans h.2.1, (u.cell (cell_lt h.2.2.1)).trans h.2.2.1, (u.cell (cell_lt h.2.2.2.1)).trans h.2.2.2.1, (u.cell (cell_lt h.2.2.2.2.1)).trans h.2.2.2.2.1, (u.cell (cell_lt h.2.2.2.2.2)).trans h.2.2.2.2.2⟩
theorem But.drew {g : Nat} {a b : World} (h : But g a b) : But g a b.drew := ⟨h.os, h.tape, h.output, h.size, h.block⟩
theorem cells3 {w : World} {g : Nat} {t : TypeId} {a b c : Value} (h : Bk w g t #[a, b, c]) : w.cell? ⟨g, 0, none⟩ = some a ∧ w.cell? ⟨g, 1, none⟩ = some b ∧ w.cell? ⟨g, 2, none⟩ = some c := ⟨h.cell 0, h.cell 1, h.cell 2⟩
set_option maxRecDepth 100000 in
set_option maxHeartbeats 8000000 in
theorem c_imagesOf (x y : TTree) (v u : Value) (w : World) (hv : AV shTree w v x) (hu : AV shTree w u y) (hx : TreeP x) (hy : TreeP y) (htab : Tab w) :
    Calls Tryz.prog 38 #[v, u] w (ToL shImage (imgs x y) w) := by
  obtain ⟨i0, hi0, hz0, hz1, hz2⟩ := info_parts cinfo_ImageT
  obtain ⟨cs, rfl, hv⟩ := hv
  obtain ⟨A0, c0, rfl, b00⟩ := openTree hv
  obtain ⟨cs', rfl, hu⟩ := hu
  obtain ⟨A1, c1, rfl, b01⟩ := openTree hu
  clear hv hu
  have hxl := hx.1
  have hyl := hy.1
  have HX := Lib.hid hx
  have HY := Lib.hid hy
  clear hx hy
  obtain ⟨W0, hW0⟩ : ∃ W0, W0 = ((w.alloc (.cells #[.slice A0 x.length c0] 33)).alloc (.cells #[.slice A1 y.length c1] 33)) := ⟨_, rfl⟩
  have u0 : Up w W0 := by rw [hW0]; exact ((Up.refl w).alloc _).alloc _
  have ka0 : Bk W0 w.heap.size 33 #[.slice A0 x.length c0] := by rw [hW0]; exact (Bk.new _ _ _).alloc _
  have kb0 : Bk W0 (w.heap.size + 1) 33 #[.slice A1 y.length c1] := by rw [hW0]; simpa using Bk.new (w.alloc (.cells #[.slice A0 x.length c0] 33)) 33 #[.slice A1 y.length c1]
  have hs0 : W0.heap.size = w.heap.size + 2 := by rw [hW0]; simp
  go_enter Tryz.func38, Tryz.ntmps38
  go_wp2_with fail
  rw [← hW0]
  clear hW0
  go_loopw [5, 6, 7] (fun o iv kv wr => ∃ (i k : Nat) (D : Option Addr) (d : Nat) (X : List TImage) (bl : List Nat), i ≤ x.length ∧ k ≤ y.length ∧ iv = .int .i64 i ∧ kv = .int .i64 k ∧ o = .slice D X.length d ∧ SO shImage wr (w.heap.size + 2) wr.heap.size D d X bl ∧ bl.Nodup ∧ Up W0 wr ∧ X.length ≤ i + k ∧ Hid (imgs x y = X ++ imgs (x.drop i) (y.drop k))) (fun _ iv kv _ => (x.length - (intOf iv).toNat) + (y.length - (intOf kv).toNat))
  case atStart => exact ⟨0, 0, _, 0, [], [], Nat.zero_le _, Nat.zero_le _, rfl, rfl, rfl, ⟨Nat.le_refl _, Nat.zero_le _, .inl ⟨rfl, rfl, rfl⟩⟩, by simp, (Up.refl W0).alloc _, Nat.zero_le _, by rw [List.drop_zero, List.drop_zero]; rfl⟩
  case round =>
    obtain ⟨i, k, D, d, X, bl, hi, hk, rfl, rfl, rfl, so, nd, hu, hXl, HC⟩ := hrel
    have uw := u0.trans hu
    have ka := ka0.up hu
    have kb := kb0.up hu
    have ga : wr.cell? ⟨w.heap.size, 0, none⟩ = some (.slice A0 x.length c0) := ka.cell 0
    have gb : wr.cell? ⟨w.heap.size + 1, 0, none⟩ = some (.slice A1 y.length c1) := kb.cell 0
    have hin := so.in_ good_Image
    have hws := hu.size
    have hxl2 : X.length ≤ 240 := by omega
    have SOH := Lib.hid so
    have NDH := Lib.hid nd
    clear so nd
    by_cases hent : i < x.length ∨ k < y.length
    · go_upto_region 2 with fail
      go_cut [24] (fun t wx => t = .bool true ∧ wr = wx)
      case first =>
        by_cases hi' : i < x.length
        · go_wp2_with fail
          go_meet
          exact ⟨rfl, rfl⟩
        · have hk' : k < y.length := by omega
          go_wp2_with fail
          go_meet
          exact ⟨rfl, rfl⟩
      obtain ⟨rfl, rfl⟩ := hcut
      go_upto_block 2 with fail
      go_cut [8] (fun t wx => ∃ o, t = .int .i64 o ∧ Up wr wx ∧ ((∃ h : i < x.length, o = -1 ∧ Hid (imgs (x.drop i) (y.drop k) = leftI x[i] :: imgs (x.drop (i + 1)) (y.drop k))) ∨ (∃ h : k < y.length, o = 1 ∧ Hid (imgs (x.drop i) (y.drop k) = rightI y[k] :: imgs (x.drop i) (y.drop (k + 1)))) ∨
        (∃ (h1 : i < x.length) (h2 : k < y.length), o = 0 ∧ Hid (locOf x[i] = locOf y[k]) ∧ Hid (imgs (x.drop i) (y.drop k) = if x[i].2.2 = y[k].2.2 then imgs (x.drop (i + 1)) (y.drop (k + 1)) else bothI x[i] y[k] :: imgs (x.drop (i + 1)) (y.drop (k + 1))))))
      case first =>
        by_cases hi' : i < x.length
        · have hne : ¬ ((i : Int) = (x.length : Int)) := by omega
          by_cases hk' : k < y.length
          · have hnk : ¬ ((k : Int) = (y.length : Int)) := by omega
            obtain ⟨g0, o0, A2, e2, rfl, _, hgl0, hc0, hc1, hc2, p0, p1, p2, _⟩ := atNode b00 hi'
            obtain ⟨g1, o1, A3, e3, rfl, _, hgl1, hd0, hd1, hd2, r0, r1, r2, _⟩ := atNode b01 hk'
            have cc := fun W (hW : Up wr W) => c_compareLocations x[i].1 y[k].1 x[i].2.1 y[k].2.1 A2 A3 e2 e3 W (p1.up good_S (uw.trans hW)) (r1.up good_S (uw.trans hW)) (treeP_small HX.out i hi') (treeP_small HY.out k hk') (tab_up htab (uw.trans hW))
            have S0 : Hid (wr.cell? ⟨w.heap.size, 0, none⟩ = some (.slice (some ⟨g0, o0, none⟩) x.length c0) ∧ wr.cell? ⟨w.heap.size + 1, 0, none⟩ = some (.slice (some ⟨g1, o1, none⟩) y.length c1) ∧ wr.cell? ⟨g0, o0 + i * 3, none⟩ = some (.string x[i].1) ∧ wr.cell? ⟨g0, o0 + i * 3 + 1, none⟩ = some (.slice A2 x[i].2.1.length e2) ∧ wr.cell? ⟨g1, o1 + k * 3, none⟩ = some (.string y[k].1) ∧ wr.cell? ⟨g1, o1 + k * 3 + 1, none⟩ = some (.slice A3 y[k].2.1.length e3)) :=
              ⟨ga, gb, (uw.cell (cell_lt hc0)).trans hc0, (uw.cell (cell_lt hc1)).trans hc1, (uw.cell (cell_lt hd0)).trans hd0, (uw.cell (cell_lt hd1)).trans hd1⟩
            have hord : ∃ o, cmpBy locLt (x[i].1, x[i].2.1) (y[k].1, y[k].2.1) = o ∧ ((∃ h : i < x.length, o = -1 ∧ Hid (imgs (x.drop i) (y.drop k) = leftI x[i] :: imgs (x.drop (i + 1)) (y.drop k))) ∨ (∃ h : k < y.length, o = 1 ∧ Hid (imgs (x.drop i) (y.drop k) = rightI y[k] :: imgs (x.drop i) (y.drop (k + 1)))) ∨
                (∃ (h1 : i < x.length) (h2 : k < y.length), o = 0 ∧ Hid (locOf x[i] = locOf y[k]) ∧ Hid (imgs (x.drop i) (y.drop k) = if x[i].2.2 = y[k].2.2 then imgs (x.drop (i + 1)) (y.drop (k + 1)) else bothI x[i] y[k] :: imgs (x.drop (i + 1)) (y.drop (k + 1))))) := by
              refine ⟨_, rfl, ?_⟩
              rcases lo_loc.three (locOf x[i]) (locOf y[k]) with ⟨e1, e2, _, e4⟩ | ⟨e1, e2, e3, e4⟩ | ⟨e1, e2, _, e4⟩
              · exact .inl ⟨hi', e4, imgs_lt hi' hk' e1⟩
              · exact .inr (.inr ⟨hi', hk', e4, e1, imgs_eq hi' hk' e2 e3⟩)
              · exact .inr (.inl ⟨hk', e4, imgs_gt hi' hk' e1 e2⟩)
            obtain ⟨o, ho, hord⟩ := hord
            rw [ho] at cc
            have CC := Lib.hid cc
            have HO := Lib.hid hord
            clear cc hord ho hc0 hc1 hc2 hd0 hd1 hd2
            go_wp2_with fail
            go_region_held3 (fun W => W.cell? ⟨w.heap.size, 0, none⟩ = some (.slice (some ⟨g0, o0, none⟩) x.length c0) ∧ W.cell? ⟨w.heap.size + 1, 0, none⟩ = some (.slice (some ⟨g1, o1, none⟩) y.length c1) ∧ W.cell? ⟨g0, o0 + i * 3, none⟩ = some (.string x[i].1) ∧ W.cell? ⟨g0, o0 + i * 3 + 1, none⟩ = some (.slice A2 x[i].2.1.length e2) ∧ W.cell? ⟨g1, o1 + k * 3, none⟩ = some (.string y[k].1) ∧ W.cell? ⟨g1, o1 + k * 3 + 1, none⟩ = some (.slice A3 y[k].2.1.length e3))
              (first | exact S0.out | exact up6c (Up.refl wr).drew S0.out | exact up6c v5 S0.out)
              (first
                | (go_at_call 81
                   refine (CC.out _ (by first | exact Up.refl wr | exact (Up.refl wr).drew)).mono ?_
                   rintro e w5 ⟨rfl, u5⟩
                   have v5 : Up wr w5 := (by first | exact u5 | exact (Up.refl wr).drew.trans u5)))
            go_wp2_with fail
            go_meet
            exact ⟨o, rfl, v5, HO.out⟩
          · have hkk : k = y.length := by omega
            subst hkk
            have HL := Lib.hid (imgs_left (b := y) (k := y.length) hi' (by omega))
            go_wp2_with fail
            go_meet
            exact ⟨-1, rfl, Up.refl wr, .inl ⟨hi', rfl, HL⟩⟩
        · have hii : i = x.length := by omega
          subst hii
          have hk' : k < y.length := by omega
          have HL := Lib.hid (imgs_right (a := x) (i := x.length) (by omega) hk')
          go_wp2_with fail
          go_meet
          exact ⟨1, rfl, Up.refl wr, .inr (.inl ⟨hk', rfl, HL⟩)⟩
      obtain ⟨o, rfl, uq, hord⟩ := hcut
      obtain ⟨q9, hq9⟩ : ∃ q9, q9 = wc := ⟨_, rfl⟩
      subst hq9
      have kq := Bk.new q9 76 #[.string ⟨#[]⟩, .slice none 0 0, .bool false, .string ⟨#[]⟩, .bool false, .string ⟨#[]⟩]
      have u9 : Up q9 (q9.alloc (.cells #[.string ⟨#[]⟩, .slice none 0 0, .bool false, .string ⟨#[]⟩, .bool false, .string ⟨#[]⟩] 76)) := (Up.refl q9).alloc _
      obtain ⟨W9, hW9⟩ : ∃ W9, W9 = q9.alloc (.cells #[.string ⟨#[]⟩, .slice none 0 0, .bool false, .string ⟨#[]⟩, .bool false, .string ⟨#[]⟩] 76) := ⟨_, rfl⟩
      rw [← hW9] at kq u9
      have hs9 : W9.heap.size = q9.heap.size + 1 := by rw [hW9]; simp
      have hB9r : wr.heap.size ≤ q9.heap.size := uq.size
      have ur9 := uq.trans u9
      have gaq : q9.cell? ⟨w.heap.size, 0, none⟩ = some (.slice A0 x.length c0) := (ka.up uq).cell 0
      have gbq : q9.cell? ⟨w.heap.size + 1, 0, none⟩ = some (.slice A1 y.length c1) := (kb.up uq).cell 0
      have ka9 := ka.up ur9
      have kb9 := kb.up ur9
      have ga9 : W9.cell? ⟨w.heap.size, 0, none⟩ = some (.slice A0 x.length c0) := ka9.cell 0
      have gb9 : W9.cell? ⟨w.heap.size + 1, 0, none⟩ = some (.slice A1 y.length c1) := kb9.cell 0
      have uw9 := uw.trans ur9
      rcases hord with ⟨hi', rfl, HL⟩ | ⟨hk', rfl, HL⟩ | ⟨hi', hk', rfl, HE, HL⟩
      · obtain ⟨g0a, o0a, A2a, e2a, rfl, _, _, hc0, hc1, hc2, p0, p1, p2, _⟩ := atNode b00 hi'
        have n0a := (uw9.cell (cell_lt hc0)).trans hc0
        have n1a := (uw9.cell (cell_lt hc1)).trans hc1
        have n2a := (uw9.cell (cell_lt hc2)).trans hc2
        have cn := c_copyNode (.agg #[.string x[i].1, .slice A2a x[i].2.1.length e2a, .string x[i].2.2]) x[i] W9 (AV.up good_Node ⟨_, rfl, mkNode (x := x[i]) p0 p1 p2⟩ uw9) (treeP_subs HX.out i hi')
        have CN := Lib.hid cn
        clear cn hc0 hc1 hc2 p0 p1 p2
        go_upto_region 11 with fail
        rw [← hW9]
        clear hW9
        go_wp2_with fail
        refine CN.out.mono ?_
        rintro e w5a ⟨cs5, bl5a, rfl, o5, nd5a, u5a⟩
        obtain ⟨A5a, c5a, _, rfl, rfl, f0a, f1a, f2a⟩ := openONode o5
        obtain ⟨W5a, hW5⟩ : ∃ W5, W5 = w5a.alloc (.cells #[.string x[i].1, .slice A5a x[i].2.1.length c5a, .string x[i].2.2] 119) := ⟨_, rfl⟩
        have ux5a : Up w5a W5a := by rw [hW5]; exact (Up.refl w5a).alloc _
        have k5 : Bk W5a w5a.heap.size 119 #[.string x[i].1, .slice A5a x[i].2.1.length c5a, .string x[i].2.2] := by rw [hW5]; exact Bk.new _ _ _
        have kq5a := (kq.up u5a).up ux5a
        have hn5 : w5a.heap.size ≠ q9.heap.size := by have := u5a.size; have := kq.lt; omega
        have z0 : W5a.cell? ⟨q9.heap.size, 0, none⟩ = some (.string ⟨#[]⟩) := kq5a.cell 0
        have y0 := kq5a.frozen 0
        have z1 : W5a.cell? ⟨q9.heap.size, 1, none⟩ = some (.slice none 0 0) := kq5a.cell 1
        have y1 := kq5a.frozen 1
        have z2 : W5a.cell? ⟨q9.heap.size, 2, none⟩ = some (.bool false) := kq5a.cell 2
        have y2 := kq5a.frozen 2
        have z3 : W5a.cell? ⟨q9.heap.size, 3, none⟩ = some (.string ⟨#[]⟩) := kq5a.cell 3
        have y3 := kq5a.frozen 3
        go_upto_region 12 with fail
        rw [← hW5]
        clear hW5
        go_cut [] (fun wx => Bk wx q9.heap.size 76 #[.string x[i].1, .slice A5a x[i].2.1.length c5a, .bool true, .string x[i].2.2, .bool false, .string ⟨#[]⟩] ∧ But q9.heap.size W5a wx)
        case first =>
          have e0 := k5
          have e1 := e0.far (p := ⟨q9.heap.size, 0, none⟩) hn5 (.string x[i].1)
          have e2 := e1.far (p := ⟨q9.heap.size, 1, none⟩) hn5 (.slice A5a x[i].2.1.length c5a)
          have e3 := e2.far (p := ⟨q9.heap.size, 2, none⟩) hn5 (.bool true)
          have e4 := e3.far (p := ⟨q9.heap.size, 3, none⟩) hn5 (.string x[i].2.2)
          have d0 := cells3 e0.drew
          have d1 := cells3 e1.drew
          have d2 := cells3 e2.drew
          have d3 := cells3 e3.drew
          have d4 := cells3 e4.drew
          clear e0 e1 e2 e3 e4 gaq gbq ga9 gb9
          go_region_held3 (fun W => W.cell? ⟨w5a.heap.size, 0, none⟩ = some (.string x[i].1) ∧ W.cell? ⟨w5a.heap.size, 1, none⟩ = some (.slice A5a x[i].2.1.length c5a) ∧ W.cell? ⟨w5a.heap.size, 2, none⟩ = some (.string x[i].2.2))
            (with_reducible first | exact d0 | exact d1 | exact d2 | exact d3 | exact d4)
            (fail)
          go_wp2_with fail
          go_meet
          exact ⟨by simpa using ((((kq5a.set 0 (.string x[i].1)).set 1 (.slice A5a x[i].2.1.length c5a)).set 2 (.bool true)).set 3 (.string x[i].2.2)).drew, ((((But.set W5a q9.heap.size 0 (.string x[i].1)).trans (But.set _ q9.heap.size 1 (.slice A5a x[i].2.1.length c5a))).trans (But.set _ q9.heap.size 2 (.bool true))).trans (But.set _ q9.heap.size 3 (.string x[i].2.2))).drew⟩
        obtain ⟨kxa, bxa⟩ := hcut
        have up5a := u5a.trans ux5a
        clear z0 z1 z2 z3 y0 y1 y2 y3 hn5
        have uX5 := ur9.trans up5a
        have hq5 := up5a.size
        have SOX := (SOH.out.up good_Image uX5).keep good_Image (w' := wc) (fun y hy => bxa.block y (by have := (hin y hy).2; omega))
        rw [← bxa.size] at SOX
        have UX : Up W0 wc := (hu.trans uX5).but bxa (by omega)
        have hf1 := f1a.in_ good_S
        have BLX : ∀ y ∈ bl5a, wr.heap.size ≤ y := fun y hy => by have := (hf1 y hy).1; omega
        have OWN : shImage.own wc (w.heap.size + 2) wc.heap.size [.string x[i].1, .slice A5a x[i].2.1.length c5a, .bool true, .string x[i].2.2, .bool false, .string ⟨#[]⟩] (leftI x[i]) bl5a := mkOImage (x := leftI x[i]) f0a (((f1a.up good_S ux5a).keep good_S (fun y hy => bxa.block y (by have := (hf1 y hy).1; omega))).wide good_S (by omega) (by rw [bxa.size]; exact Nat.le_refl _)) f2a (by show (0 : Nat) ≤ _; exact Nat.zero_le _)
        have w2c := kxa.cell 2
        have w3c := kxa.cell 3
        have w4c := kxa.cell 4
        have w5c := kxa.cell 5
        have w0c := kxa.cell 0
        have w1c := kxa.cell 1
        obtain ⟨cells, hcells⟩ : ∃ cells : List Value, cells = [.string x[i].1, .slice A5a x[i].2.1.length c5a, .bool true, .string x[i].2.2, .bool false, .string ⟨#[]⟩] := ⟨_, rfl⟩
        have so1 := SOX.up good_Image ((Up.refl wc).alloc (.cells cells.toArray 76))
        have kb1 : Bk (wc.alloc (.cells cells.toArray 76)) wc.heap.size 76 cells.toArray := Bk.new _ _ _
        have uu : Up W0 (wc.alloc (.cells cells.toArray 76)) := UX.alloc _
        have on1 := own_up good_Image OWN ((Up.refl wc).alloc (.cells cells.toArray 76))
        have ro : Rowed shImage (wc.alloc (.cells cells.toArray 76)) (w.heap.size + 2) (wc.alloc (.cells cells.toArray 76)).heap.size cells [leftI x[i]] [bl5a] := Rowed.one good_Image (by rw [hcells] at on1 ⊢; exact on1)
        have nd' : (bl ++ [bl5a].flatten).Nodup := by simpa using nodup_two (m := wr.heap.size) NDH.out nd5a (fun y hy => (hin y hy).2) BLX
        have hx1 : (X.length + [leftI x[i]].length) * i0.bytes ≤ 140737488355328 := by rw [hz2]; simp; omega
        have hx2 : X.length + [leftI x[i]].length ≤ maxLen := by simp; unfold maxLen; omega
        have hlo : w.heap.size + 2 ≤ (wc.alloc (.cells cells.toArray 76)).heap.size := by have h1 := uu.size; omega
        have hsrc : Src Tryz.prog i0.size 28 (.slice (some ⟨wc.heap.size, 0, none⟩) 1 1) 1 cells (wc.alloc (.cells cells.toArray 76)) := Src.box (t := 76) (cs := cells) Tryz.underlying28 kb1 (by rw [hcells]; simp [Value.oneCell']) (by rw [hz1, hcells]; rfl)
        rw [hcells] at so1 kb1 uu ro hlo hsrc
        clear hcells on1 SOX UX OWN
        go_wp2_with (first
          | (at_builtin
             refine wpList_app good_Image rfl _ _ _ _ 76 rfl i0 _ Tryz.underlying28 hi0 hz0 hz1 (by rfl) (lo := w.heap.size + 2) (xs := X) (ys := [leftI x[i]]) (bl := bl) (bs := [bl5a]) rfl rfl so1 nd' hsrc ro hlo hx1 hx2 ?_
             intro D' d2 bl' w2 hap
             obtain ⟨so2, nd2, mem2, on2⟩ := hap))
        go_roundw
        case rel =>
          exact ⟨i + 1, k, D', d2, X ++ [leftI x[i]], bl', by omega, by omega, by go_num, by go_num, by simp, so2, nd2, Up.only uu on2 (fun y hy => by have := (hin y hy).1; omega), by simp; omega, by unfold Hid; rw [HC.out, HL.out]; simp⟩
        case measure => simp [intOf]; omega
      · obtain ⟨g0a, o0a, A2a, e2a, rfl, _, _, hc0, hc1, hc2, p0, p1, p2, _⟩ := atNode b01 hk'
        have n0a := (uw9.cell (cell_lt hc0)).trans hc0
        have n1a := (uw9.cell (cell_lt hc1)).trans hc1
        have n2a := (uw9.cell (cell_lt hc2)).trans hc2
        have cn := c_copyNode (.agg #[.string y[k].1, .slice A2a y[k].2.1.length e2a, .string y[k].2.2]) y[k] W9 (AV.up good_Node ⟨_, rfl, mkNode (x := y[k]) p0 p1 p2⟩ uw9) (treeP_subs HY.out k hk')
        have CN := Lib.hid cn
        clear cn hc0 hc1 hc2 p0 p1 p2
        go_upto_region 15 with fail
        rw [← hW9]
        clear hW9
        go_wp2_with fail
        refine CN.out.mono ?_
        rintro e w5a ⟨cs5, bl5a, rfl, o5, nd5a, u5a⟩
        obtain ⟨A5a, c5a, _, rfl, rfl, f0a, f1a, f2a⟩ := openONode o5
        obtain ⟨W5a, hW5⟩ : ∃ W5, W5 = w5a.alloc (.cells #[.string y[k].1, .slice A5a y[k].2.1.length c5a, .string y[k].2.2] 119) := ⟨_, rfl⟩
        have ux5a : Up w5a W5a := by rw [hW5]; exact (Up.refl w5a).alloc _
        have k5 : Bk W5a w5a.heap.size 119 #[.string y[k].1, .slice A5a y[k].2.1.length c5a, .string y[k].2.2] := by rw [hW5]; exact Bk.new _ _ _
        have kq5a := (kq.up u5a).up ux5a
        have hn5 : w5a.heap.size ≠ q9.heap.size := by have := u5a.size; have := kq.lt; omega
        have z0 : W5a.cell? ⟨q9.heap.size, 0, none⟩ = some (.string ⟨#[]⟩) := kq5a.cell 0
        have y0 := kq5a.frozen 0
        have z1 : W5a.cell? ⟨q9.heap.size, 1, none⟩ = some (.slice none 0 0) := kq5a.cell 1
        have y1 := kq5a.frozen 1
        have z2 : W5a.cell? ⟨q9.heap.size, 4, none⟩ = some (.bool false) := kq5a.cell 4
        have y2 := kq5a.frozen 4
        have z3 : W5a.cell? ⟨q9.heap.size, 5, none⟩ = some (.string ⟨#[]⟩) := kq5a.cell 5
        have y3 := kq5a.frozen 5
        go_upto_region 16 with fail
        rw [← hW5]
        clear hW5
        go_cut [] (fun wx => Bk wx q9.heap.size 76 #[.string y[k].1, .slice A5a y[k].2.1.length c5a, .bool false, .string ⟨#[]⟩, .bool true, .string y[k].2.2] ∧ But q9.heap.size W5a wx)
        case first =>
          have e0 := k5
          have e1 := e0.far (p := ⟨q9.heap.size, 0, none⟩) hn5 (.string y[k].1)
          have e2 := e1.far (p := ⟨q9.heap.size, 1, none⟩) hn5 (.slice A5a y[k].2.1.length c5a)
          have e3 := e2.far (p := ⟨q9.heap.size, 4, none⟩) hn5 (.bool true)
          have e4 := e3.far (p := ⟨q9.heap.size, 5, none⟩) hn5 (.string y[k].2.2)
          have d0 := cells3 e0.drew
          have d1 := cells3 e1.drew
          have d2 := cells3 e2.drew
          have d3 := cells3 e3.drew
          have d4 := cells3 e4.drew
          clear e0 e1 e2 e3 e4 gaq gbq ga9 gb9
          go_region_held3 (fun W => W.cell? ⟨w5a.heap.size, 0, none⟩ = some (.string y[k].1) ∧ W.cell? ⟨w5a.heap.size, 1, none⟩ = some (.slice A5a y[k].2.1.length c5a) ∧ W.cell? ⟨w5a.heap.size, 2, none⟩ = some (.string y[k].2.2))
            (with_reducible first | exact d0 | exact d1 | exact d2 | exact d3 | exact d4)
            (fail)
          go_wp2_with fail
          go_meet
          exact ⟨by simpa using ((((kq5a.set 0 (.string y[k].1)).set 1 (.slice A5a y[k].2.1.length c5a)).set 4 (.bool true)).set 5 (.string y[k].2.2)).drew, ((((But.set W5a q9.heap.size 0 (.string y[k].1)).trans (But.set _ q9.heap.size 1 (.slice A5a y[k].2.1.length c5a))).trans (But.set _ q9.heap.size 4 (.bool true))).trans (But.set _ q9.heap.size 5 (.string y[k].2.2))).drew⟩
        obtain ⟨kxa, bxa⟩ := hcut
        have up5a := u5a.trans ux5a
        clear z0 z1 z2 z3 y0 y1 y2 y3 hn5
        have uX5 := ur9.trans up5a
        have hq5 := up5a.size
        have SOX := (SOH.out.up good_Image uX5).keep good_Image (w' := wc) (fun y hy => bxa.block y (by have := (hin y hy).2; omega))
        rw [← bxa.size] at SOX
        have UX : Up W0 wc := (hu.trans uX5).but bxa (by omega)
        have hf1 := f1a.in_ good_S
        have BLX : ∀ y ∈ bl5a, wr.heap.size ≤ y := fun y hy => by have := (hf1 y hy).1; omega
        have OWN : shImage.own wc (w.heap.size + 2) wc.heap.size [.string y[k].1, .slice A5a y[k].2.1.length c5a, .bool false, .string ⟨#[]⟩, .bool true, .string y[k].2.2] (rightI y[k]) bl5a := mkOImage (x := rightI y[k]) f0a (((f1a.up good_S ux5a).keep good_S (fun y hy => bxa.block y (by have := (hf1 y hy).1; omega))).wide good_S (by omega) (by rw [bxa.size]; exact Nat.le_refl _)) (by show (0 : Nat) ≤ _; exact Nat.zero_le _) f2a
        have w2c := kxa.cell 2
        have w3c := kxa.cell 3
        have w4c := kxa.cell 4
        have w5c := kxa.cell 5
        have w0c := kxa.cell 0
        have w1c := kxa.cell 1
        obtain ⟨cells, hcells⟩ : ∃ cells : List Value, cells = [.string y[k].1, .slice A5a y[k].2.1.length c5a, .bool false, .string ⟨#[]⟩, .bool true, .string y[k].2.2] := ⟨_, rfl⟩
        have so1 := SOX.up good_Image ((Up.refl wc).alloc (.cells cells.toArray 76))
        have kb1 : Bk (wc.alloc (.cells cells.toArray 76)) wc.heap.size 76 cells.toArray := Bk.new _ _ _
        have uu : Up W0 (wc.alloc (.cells cells.toArray 76)) := UX.alloc _
        have on1 := own_up good_Image OWN ((Up.refl wc).alloc (.cells cells.toArray 76))
        have ro : Rowed shImage (wc.alloc (.cells cells.toArray 76)) (w.heap.size + 2) (wc.alloc (.cells cells.toArray 76)).heap.size cells [rightI y[k]] [bl5a] := Rowed.one good_Image (by rw [hcells] at on1 ⊢; exact on1)
        have nd' : (bl ++ [bl5a].flatten).Nodup := by simpa using nodup_two (m := wr.heap.size) NDH.out nd5a (fun y hy => (hin y hy).2) BLX
        have hx1 : (X.length + [rightI y[k]].length) * i0.bytes ≤ 140737488355328 := by rw [hz2]; simp; omega
        have hx2 : X.length + [rightI y[k]].length ≤ maxLen := by simp; unfold maxLen; omega
        have hlo : w.heap.size + 2 ≤ (wc.alloc (.cells cells.toArray 76)).heap.size := by have h1 := uu.size; omega
        have hsrc : Src Tryz.prog i0.size 28 (.slice (some ⟨wc.heap.size, 0, none⟩) 1 1) 1 cells (wc.alloc (.cells cells.toArray 76)) := Src.box (t := 76) (cs := cells) Tryz.underlying28 kb1 (by rw [hcells]; simp [Value.oneCell']) (by rw [hz1, hcells]; rfl)
        rw [hcells] at so1 kb1 uu ro hlo hsrc
        clear hcells on1 SOX UX OWN
        go_wp2_with (first
          | (at_builtin
             refine wpList_app good_Image rfl _ _ _ _ 76 rfl i0 _ Tryz.underlying28 hi0 hz0 hz1 (by rfl) (lo := w.heap.size + 2) (xs := X) (ys := [rightI y[k]]) (bl := bl) (bs := [bl5a]) rfl rfl so1 nd' hsrc ro hlo hx1 hx2 ?_
             intro D' d2 bl' w2 hap
             obtain ⟨so2, nd2, mem2, on2⟩ := hap))
        go_roundw
        case rel =>
          exact ⟨i, k + 1, D', d2, X ++ [rightI y[k]], bl', by omega, by omega, by go_num, by go_num, by simp, so2, nd2, Up.only uu on2 (fun y hy => by have := (hin y hy).1; omega), by simp; omega, by unfold Hid; rw [HC.out, HL.out]; simp⟩
        case measure => simp [intOf]; omega
      · obtain ⟨g0a, o0a, A2a, e2a, rfl, _, _, hc0, hc1, hc2, p0, p1, p2, _⟩ := atNode b00 hi'
        have n0a := (uw9.cell (cell_lt hc0)).trans hc0
        have n1a := (uw9.cell (cell_lt hc1)).trans hc1
        have n2a := (uw9.cell (cell_lt hc2)).trans hc2
        have cn := c_copyNode (.agg #[.string x[i].1, .slice A2a x[i].2.1.length e2a, .string x[i].2.2]) x[i] W9 (AV.up good_Node ⟨_, rfl, mkNode (x := x[i]) p0 p1 p2⟩ uw9) (treeP_subs HX.out i hi')
        have CN := Lib.hid cn
        clear cn hc0 hc1 hc2 p0 p1 p2
        go_upto_region 11 with fail
        rw [← hW9]
        clear hW9
        go_wp2_with fail
        refine CN.out.mono ?_
        rintro e w5a ⟨cs5, bl5a, rfl, o5, nd5a, u5a⟩
        obtain ⟨A5a, c5a, _, rfl, rfl, f0a, f1a, f2a⟩ := openONode o5
        obtain ⟨W5a, hW5⟩ : ∃ W5, W5 = w5a.alloc (.cells #[.string x[i].1, .slice A5a x[i].2.1.length c5a, .string x[i].2.2] 119) := ⟨_, rfl⟩
        have ux5a : Up w5a W5a := by rw [hW5]; exact (Up.refl w5a).alloc _
        have k5 : Bk W5a w5a.heap.size 119 #[.string x[i].1, .slice A5a x[i].2.1.length c5a, .string x[i].2.2] := by rw [hW5]; exact Bk.new _ _ _
        have kq5a := (kq.up u5a).up ux5a
        have hn5 : w5a.heap.size ≠ q9.heap.size := by have := u5a.size; have := kq.lt; omega
        have z0 : W5a.cell? ⟨q9.heap.size, 0, none⟩ = some (.string ⟨#[]⟩) := kq5a.cell 0
        have y0 := kq5a.frozen 0
        have z1 : W5a.cell? ⟨q9.heap.size, 1, none⟩ = some (.slice none 0 0) := kq5a.cell 1
        have y1 := kq5a.frozen 1
        have z2 : W5a.cell? ⟨q9.heap.size, 2, none⟩ = some (.bool false) := kq5a.cell 2
        have y2 := kq5a.frozen 2
        have z3 : W5a.cell? ⟨q9.heap.size, 3, none⟩ = some (.string ⟨#[]⟩) := kq5a.cell 3
        have y3 := kq5a.frozen 3
        go_upto_region 12 with fail
        rw [← hW5]
        clear hW5
        go_cut [] (fun wx => Bk wx q9.heap.size 76 #[.string x[i].1, .slice A5a x[i].2.1.length c5a, .bool true, .string x[i].2.2, .bool false, .string ⟨#[]⟩] ∧ But q9.heap.size W5a wx)
        case first =>
          have e0 := k5
          have e1 := e0.far (p := ⟨q9.heap.size, 0, none⟩) hn5 (.string x[i].1)
          have e2 := e1.far (p := ⟨q9.heap.size, 1, none⟩) hn5 (.slice A5a x[i].2.1.length c5a)
          have e3 := e2.far (p := ⟨q9.heap.size, 2, none⟩) hn5 (.bool true)
          have e4 := e3.far (p := ⟨q9.heap.size, 3, none⟩) hn5 (.string x[i].2.2)
          have d0 := cells3 e0.drew
          have d1 := cells3 e1.drew
          have d2 := cells3 e2.drew
          have d3 := cells3 e3.drew
          have d4 := cells3 e4.drew
          clear e0 e1 e2 e3 e4 gaq gbq ga9 gb9
          go_region_held3 (fun W => W.cell? ⟨w5a.heap.size, 0, none⟩ = some (.string x[i].1) ∧ W.cell? ⟨w5a.heap.size, 1, none⟩ = some (.slice A5a x[i].2.1.length c5a) ∧ W.cell? ⟨w5a.heap.size, 2, none⟩ = some (.string x[i].2.2))
            (with_reducible first | exact d0 | exact d1 | exact d2 | exact d3 | exact d4)
            (fail)
          go_wp2_with fail
          go_meet
          exact ⟨by simpa using ((((kq5a.set 0 (.string x[i].1)).set 1 (.slice A5a x[i].2.1.length c5a)).set 2 (.bool true)).set 3 (.string x[i].2.2)).drew, ((((But.set W5a q9.heap.size 0 (.string x[i].1)).trans (But.set _ q9.heap.size 1 (.slice A5a x[i].2.1.length c5a))).trans (But.set _ q9.heap.size 2 (.bool true))).trans (But.set _ q9.heap.size 3 (.string x[i].2.2))).drew⟩
        obtain ⟨kxa, bxa⟩ := hcut
        have up5a := u5a.trans ux5a
        clear z0 z1 z2 z3 y0 y1 y2 y3 hn5
        obtain ⟨q10, hq10⟩ : ∃ q10, q10 = wc := ⟨_, rfl⟩
        subst hq10
        have hq5 := up5a.size
        have hw0 := u0.size
        have u10 : Up wr q10 := (ur9.trans up5a).but bxa hB9r
        have uw10 := uw.trans u10
        have kb10 : Bk q10 (w.heap.size + 1) 33 #[.slice A1 y.length c1] := (bxa.block _ (by omega)).trans (kb9.up up5a)
        have gb10 : q10.cell? ⟨w.heap.size + 1, 0, none⟩ = some (.slice A1 y.length c1) := kb10.cell 0
        have hq10 := bxa.size
        have SO10 := (SOH.out.up good_Image (ur9.trans up5a)).keep good_Image (w' := q10) (fun y hy => bxa.block y (by have := (hin y hy).2; omega))
        rw [← bxa.size] at SO10
        have SO10H := Lib.hid SO10
        clear SO10
        obtain ⟨g0b, o0b, A2b, e2b, rfl, _, _, hc0, hc1, hc2, p0, p1, p2, _⟩ := atNode b01 hk'
        have n0b := (uw10.cell (cell_lt hc0)).trans hc0
        have n1b := (uw10.cell (cell_lt hc1)).trans hc1
        have n2b := (uw10.cell (cell_lt hc2)).trans hc2
        have cn := c_copyNode (.agg #[.string y[k].1, .slice A2b y[k].2.1.length e2b, .string y[k].2.2]) y[k] q10 (AV.up good_Node ⟨_, rfl, mkNode (x := y[k]) p0 p1 p2⟩ uw10) (treeP_subs HY.out k hk')
        have CN := Lib.hid cn
        clear cn hc0 hc1 hc2 p0 p1 p2
        go_upto_region 15 with fail
        go_wp2_with fail
        refine CN.out.mono ?_
        rintro e w5b ⟨cs5, bl5b, rfl, o5, nd5b, u5b⟩
        obtain ⟨A5b, c5b, _, rfl, rfl, f0b, f1b, f2b⟩ := openONode o5
        obtain ⟨W5b, hW5⟩ : ∃ W5, W5 = w5b.alloc (.cells #[.string y[k].1, .slice A5b y[k].2.1.length c5b, .string y[k].2.2] 119) := ⟨_, rfl⟩
        have ux5b : Up w5b W5b := by rw [hW5]; exact (Up.refl w5b).alloc _
        have k5 : Bk W5b w5b.heap.size 119 #[.string y[k].1, .slice A5b y[k].2.1.length c5b, .string y[k].2.2] := by rw [hW5]; exact Bk.new _ _ _
        have kq5b := (kxa.up u5b).up ux5b
        have hn5 : w5b.heap.size ≠ q9.heap.size := by have := u5b.size; have := kxa.lt; omega
        have z0 : W5b.cell? ⟨q9.heap.size, 0, none⟩ = some (.string x[i].1) := kq5b.cell 0
        have y0 := kq5b.frozen 0
        have z1 : W5b.cell? ⟨q9.heap.size, 1, none⟩ = some (.slice A5a x[i].2.1.length c5a) := kq5b.cell 1
        have y1 := kq5b.frozen 1
        have z2 : W5b.cell? ⟨q9.heap.size, 4, none⟩ = some (.bool false) := kq5b.cell 4
        have y2 := kq5b.frozen 4
        have z3 : W5b.cell? ⟨q9.heap.size, 5, none⟩ = some (.string ⟨#[]⟩) := kq5b.cell 5
        have y3 := kq5b.frozen 5
        go_upto_region 16 with fail
        rw [← hW5]
        clear hW5
        go_cut [] (fun wx => Bk wx q9.heap.size 76 #[.string y[k].1, .slice A5b y[k].2.1.length c5b, .bool true, .string x[i].2.2, .bool true, .string y[k].2.2] ∧ But q9.heap.size W5b wx)
        case first =>
          have e0 := k5
          have e1 := e0.far (p := ⟨q9.heap.size, 0, none⟩) hn5 (.string y[k].1)
          have e2 := e1.far (p := ⟨q9.heap.size, 1, none⟩) hn5 (.slice A5b y[k].2.1.length c5b)
          have e3 := e2.far (p := ⟨q9.heap.size, 4, none⟩) hn5 (.bool true)
          have e4 := e3.far (p := ⟨q9.heap.size, 5, none⟩) hn5 (.string y[k].2.2)
          have d0 := cells3 e0.drew
          have d1 := cells3 e1.drew
          have d2 := cells3 e2.drew
          have d3 := cells3 e3.drew
          have d4 := cells3 e4.drew
          clear e0 e1 e2 e3 e4 gaq gbq ga9 gb9
          go_region_held3 (fun W => W.cell? ⟨w5b.heap.size, 0, none⟩ = some (.string y[k].1) ∧ W.cell? ⟨w5b.heap.size, 1, none⟩ = some (.slice A5b y[k].2.1.length c5b) ∧ W.cell? ⟨w5b.heap.size, 2, none⟩ = some (.string y[k].2.2))
            (with_reducible first | exact d0 | exact d1 | exact d2 | exact d3 | exact d4)
            (fail)
          go_wp2_with fail
          go_meet
          exact ⟨by simpa using ((((kq5b.set 0 (.string y[k].1)).set 1 (.slice A5b y[k].2.1.length c5b)).set 4 (.bool true)).set 5 (.string y[k].2.2)).drew, ((((But.set W5b q9.heap.size 0 (.string y[k].1)).trans (But.set _ q9.heap.size 1 (.slice A5b y[k].2.1.length c5b))).trans (But.set _ q9.heap.size 4 (.bool true))).trans (But.set _ q9.heap.size 5 (.string y[k].2.2))).drew⟩
        obtain ⟨kxb, bxb⟩ := hcut
        have up5b := u5b.trans ux5b
        clear z0 z1 z2 z3 y0 y1 y2 y3 hn5
        have hq6 := up5b.size
        have SOX := (SO10H.out.up good_Image up5b).keep good_Image (w' := wc) (fun y hy => bxb.block y (by have := (hin y hy).2; omega))
        rw [← bxb.size] at SOX
        have UX : Up W0 wc := (hu.trans (u10.trans up5b)).but bxb (by omega)
        have hv3 := kxb.cell 3
        have hv5 := kxb.cell 5
        have hv2 := kxb.cell 2
        have hv4 := kxb.cell 4
        by_cases hv : x[i].2.2 = y[k].2.2
        · have hve : (x[i].2.2.toList == y[k].2.2.toList) = true := by rw [str_beq]; simp [hv]
          have hve' : ¬ ¬ x[i].2.2.toList = y[k].2.2.toList := by rw [hv]; simp
          have HN : Hid (imgs (x.drop i) (y.drop k) = imgs (x.drop (i + 1)) (y.drop (k + 1))) := by unfold Hid; rw [HL.out, if_pos hv]
          have SOXH := Lib.hid SOX
          clear hv SOX
          go_wp2_with fail
          go_roundw
          case rel =>
            exact ⟨i + 1, k + 1, D, d, X, bl, by omega, by omega, by go_num, by go_num, rfl, SOXH.out, NDH.out, UX, by omega, by unfold Hid; rw [HC.out, HN.out]⟩
          case measure => simp [intOf]; omega
        · have hve : (x[i].2.2.toList == y[k].2.2.toList) = false := by rw [str_beq]; simp [hv]
          have HN : Hid (imgs (x.drop i) (y.drop k) = bothI x[i] y[k] :: imgs (x.drop (i + 1)) (y.drop (k + 1))) := by unfold Hid; rw [HL.out, if_neg hv]
          have hf1 := f1b.in_ good_S
          have BLX : ∀ y ∈ bl5b, wr.heap.size ≤ y := fun y hy => by have := (hf1 y hy).1; omega
          have hbo : bothI x[i] y[k] = (y[k].1, y[k].2.1, true, x[i].2.2, true, y[k].2.2) := by
            have e := HE.out
            simp only [locOf, Prod.mk.injEq] at e
            unfold bothI
            rw [e.1, e.2]
          have OWN : shImage.own wc (w.heap.size + 2) wc.heap.size [.string y[k].1, .slice A5b y[k].2.1.length c5b, .bool true, .string x[i].2.2, .bool true, .string y[k].2.2] (bothI x[i] y[k]) bl5b := by
            rw [hbo]
            exact mkOImage (x := (y[k].1, y[k].2.1, true, x[i].2.2, true, y[k].2.2)) f0b (((f1b.up good_S ux5b).keep good_S (fun y hy => bxb.block y (by have := (hf1 y hy).1; omega))).wide good_S (by omega) (by rw [bxb.size]; exact Nat.le_refl _)) f2a f2b
          clear hv hbo hv2 hv3 hv4 hv5
          have w2c := kxb.cell 2
          have w3c := kxb.cell 3
          have w4c := kxb.cell 4
          have w5c := kxb.cell 5
          have w0c := kxb.cell 0
          have w1c := kxb.cell 1
          obtain ⟨cells, hcells⟩ : ∃ cells : List Value, cells = [.string y[k].1, .slice A5b y[k].2.1.length c5b, .bool true, .string x[i].2.2, .bool true, .string y[k].2.2] := ⟨_, rfl⟩
          have so1 := SOX.up good_Image ((Up.refl wc).alloc (.cells cells.toArray 76))
          have kb1 : Bk (wc.alloc (.cells cells.toArray 76)) wc.heap.size 76 cells.toArray := Bk.new _ _ _
          have uu : Up W0 (wc.alloc (.cells cells.toArray 76)) := UX.alloc _
          have on1 := own_up good_Image OWN ((Up.refl wc).alloc (.cells cells.toArray 76))
          have ro : Rowed shImage (wc.alloc (.cells cells.toArray 76)) (w.heap.size + 2) (wc.alloc (.cells cells.toArray 76)).heap.size cells [bothI x[i] y[k]] [bl5b] := Rowed.one good_Image (by rw [hcells] at on1 ⊢; exact on1)
          have nd' : (bl ++ [bl5b].flatten).Nodup := by simpa using nodup_two (m := wr.heap.size) NDH.out nd5b (fun y hy => (hin y hy).2) BLX
          have hx1 : (X.length + [bothI x[i] y[k]].length) * i0.bytes ≤ 140737488355328 := by rw [hz2]; simp; omega
          have hx2 : X.length + [bothI x[i] y[k]].length ≤ maxLen := by simp; unfold maxLen; omega
          have hlo : w.heap.size + 2 ≤ (wc.alloc (.cells cells.toArray 76)).heap.size := by have h1 := uu.size; omega
          have hsrc : Src Tryz.prog i0.size 28 (.slice (some ⟨wc.heap.size, 0, none⟩) 1 1) 1 cells (wc.alloc (.cells cells.toArray 76)) := Src.box (t := 76) (cs := cells) Tryz.underlying28 kb1 (by rw [hcells]; simp [Value.oneCell']) (by rw [hz1, hcells]; rfl)
          rw [hcells] at so1 kb1 uu ro hlo hsrc
          clear hcells on1 SOX UX OWN
          go_wp2_with (first
            | (at_builtin
               refine wpList_app good_Image rfl _ _ _ _ 76 rfl i0 _ Tryz.underlying28 hi0 hz0 hz1 (by rfl) (lo := w.heap.size + 2) (xs := X) (ys := [bothI x[i] y[k]]) (bl := bl) (bs := [bl5b]) rfl rfl so1 nd' hsrc ro hlo hx1 hx2 ?_
               intro D' d2 bl' w2 hap
               obtain ⟨so2, nd2, mem2, on2⟩ := hap))
          go_roundw
          case rel =>
            exact ⟨i + 1, k + 1, D', d2, X ++ [bothI x[i] y[k]], bl', by omega, by omega, by go_num, by go_num, by simp, so2, nd2, Up.only uu on2 (fun y hy => by have := (hin y hy).1; omega), by simp; omega, by unfold Hid; rw [HC.out, HN.out]; simp⟩
          case measure => simp [intOf]; omega
    · have HE : Hid (imgs x y = X) := by unfold Hid; rw [HC.out, imgs_end (by omega) (by omega), List.append_nil]
      have hi' : ¬ i < x.length := by omega
      have hk' : ¬ k < y.length := by omega
      go_wp2_with fail
      go_ret
      exact ⟨D, d, bl, by rw [HE.out]; first | done | rfl, by rw [HE.out]; exact SOH.out.wide good_Image (by omega) (Nat.le_refl _), NDH.out, uw⟩
end Go.Proofs.YtehhgogmbpdpbaaGreatDoor
