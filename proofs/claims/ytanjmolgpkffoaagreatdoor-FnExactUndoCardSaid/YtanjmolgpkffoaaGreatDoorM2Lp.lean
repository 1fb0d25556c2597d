/-
  redo, at a tree behind a pointer; the bounds of Redo's marks.
-/
import Derived.Test.YtanjmolgpkffoaaGreatDoorM2Ll
import Derived.Test.YtanjmolgpkffoaaGreatDoorM2Lm
import Derived.Test.YtanjmolgpkffoaaGreatDoorM2Lo
import Derived.Test.YtanjmolgpkffoaaGreatDoorM2Kn
namespace Go.Proofs.YtanjmolgpkffoaaGreatDoor
open Go.RowKit
set_option linter.unusedVariables false
set_option linter.unusedSimpArgs false

theorem cbg_Redo (x : TTree) (hn : shTree.sz x ≤ 1048576) (l : List TImage) (hl : (shL shImage).sz l ≤ 1048576) : (1 : Int) + (mmTTree.cnt (redo x l).1 : Nat) ≤ 1000000000 := by
  have := cnt_right (redo_P x l)
  omega
theorem cnt_ImageS (x : List TImage) (hn : (shL shImage).sz x ≤ 1048576) : (mkL mmImage).cnt x ≤ 8388608 := by
  have h2 : (shL shImage).sz x = x.length + (x.map shImage.sz).sum := rfl
  suffices hs : (x.map mmImage.cnt).sum ≤ 8 * (x.length + (x.map shImage.sz).sum) by
    show (x.map mmImage.cnt).sum ≤ _
    omega
  clear hn h2
  induction x with
  | nil => simp
  | cons n x ih =>
    have e1 : mmImage.cnt n = 1 + ((n.2.1.map mkS.cnt).sum + (1 + (1 + (1 + 1)))) := rfl
    have e2 : shImage.sz n = n.1.size + ((n.2.1.length + (n.2.1.map shS.sz).sum) + (0 + (n.2.2.2.1.size + (0 + n.2.2.2.2.2.size)))) := rfl
    have e3 : (n.2.1.map mkS.cnt).sum = n.2.1.length := by
      generalize n.2.1 = l
      induction l with
      | nil => rfl
      | cons a l ih => simp only [List.map_cons, List.sum_cons, List.length_cons, ih]; show 1 + l.length = _; omega
    simp only [List.map_cons, List.sum_cons, List.length_cons]
    omega
/-- What redo gives of a right tree and right images. -/
def rdx (x : TTree) (l : List TImage) : TTree × Int := if missB x l = true then ([], 5) else putAll (dropAll x l) l
theorem redo_rdx {x : TTree} {l : List TImage} (ht : treeB x = true) (hi : imagesB l = true) : redo x l = rdx x l := by unfold redo rdx; rw [if_pos ⟨ht, hi⟩]
theorem rdx_miss {x : TTree} {l : List TImage} {k : Nat} (h : k < l.length) (hm : matchB x l[k] = false) : rdx x l = ([], 5) := by
  unfold rdx
  rw [if_pos]
  unfold missB
  rw [List.any_eq_true]
  exact ⟨l[k], List.getElem_mem h, by rw [hm]; rfl⟩
theorem rdx_hit {x : TTree} {l : List TImage} (hm : ∀ k (h : k < l.length), matchB x l[k] = true) : rdx x l = putAll (dropAll x l) l := by
  unfold rdx
  rw [if_neg]
  unfold missB
  rw [List.any_eq_true]
  rintro ⟨i, hi, hb⟩
  obtain ⟨j, hj, rfl⟩ := List.getElem_of_mem hi
  rw [hm j hj] at hb
  simp at hb
theorem get_v {x : TTree} {l : TLoc} : (if hasN x l = true then Value.tuple #[.string (valN x l), .bool true] else .tuple #[.string ⟨#[]⟩, .bool false]) = .tuple #[.string (valR x l), .bool (hasN x l)] := by
  unfold valR
  cases hasN x l <;> simp
set_option maxRecDepth 100000 in
set_option maxHeartbeats 8000000 in
theorem c_redo (w0 : World) (g : Nat) (x : TTree) (bl : List Nat) (w : World) (h : OT w0.heap.size w g x bl) (u0 : Up w0 w) (hg : w0.heap.size ≤ g) (hx : TreeP x) (B : Option Addr) (d : Nat) (l : List TImage) (k : SRW shImage w0 B d l) (hl : ∀ i (h : i < l.length), imgB l[i] = true) (htab : Tab w0) :
    Calls Tryz.prog 83 #[.pointer (some ⟨g, 0, none⟩), .slice B l.length d] w (RdP w0.heap.size w g bl (rdx x l)) := by
  have hlen := k.len_le
  have hin := h.in_
  have hgl := h.lt
  have HIM := Lib.hid hl
  have HX := Lib.hid hx
  have HIN := Lib.hid hin
  clear hl hx
  go_enter Tryz.func83, Tryz.ntmps83
  go_wp2_with fail
  go_loopw [18] (fun i wr => ∃ (j : Nat), j ≤ l.length ∧ i = .int .i64 j ∧ Hid (∀ q (hq : q < l.length), q < j → matchB x l[q] = true) ∧ Up w wr) (fun i _ => l.length - (intOf i).toNat)
  case atStart => exact ⟨0, Nat.zero_le _, rfl, fun q hq h => absurd h (by omega), Up.refl w⟩
  case round =>
    obtain ⟨j, hj, rfl, HM, hu⟩ := hrel
    have uw := u0.trans hu
    have ot := h.up hu
    by_cases hlt : j < l.length
    · obtain ⟨g2, off, A2, c2, rfl, _, hg2l, hc0, hc1, hc2, hc3, hc4, hc5, b0, b1, b3, b5, _⟩ := atImage k hlt
      have q0 := (uw.cell (cell_lt hc0)).trans hc0
      have q1 := (uw.cell (cell_lt hc1)).trans hc1
      have q2 := (uw.cell (cell_lt hc2)).trans hc2
      have q3 := (uw.cell (cell_lt hc3)).trans hc3
      have q4 := (uw.cell (cell_lt hc4)).trans hc4
      have q5 := (uw.cell (cell_lt hc5)).trans hc5
      obtain ⟨A, c, hk, so, nd, hgn⟩ := ot
      have g0 := hk.cell 0
      have hkl := hk.lt
      have kn := Bk.new wr 98 #[.string l[j].1, .slice A2 l[j].2.1.length c2, .bool l[j].2.2.1, .string l[j].2.2.2.1, .bool l[j].2.2.2.2.1, .string l[j].2.2.2.2.2]
      have ua : Up wr (wr.alloc (.cells #[.string l[j].1, .slice A2 l[j].2.1.length c2, .bool l[j].2.2.1, .string l[j].2.2.2.1, .bool l[j].2.2.2.2.1, .string l[j].2.2.2.2.2] 98)) := (Up.refl wr).alloc _
      have hpl := img_place (HIM.out j hlt)
      have cg : ∀ W, Up wr W → Calls Tryz.prog 58 #[.agg #[.slice A x.length c], .string l[j].1, .slice A2 l[j].2.1.length c2] W (RetV (.tuple #[.string (valR x (imL l[j])), .bool (hasN x (imL l[j]))]) W) := fun W hW => by
        have := c_get x HX.out _ l[j].1 l[j].2.1 A2 c2 W (AV.up good_Tree ⟨_, rfl, mkTree (SR.of_own good_Node so)⟩ hW) (b1.up good_S (uw.trans hW)) b0 (placeB_small hpl.1) (tab_up htab (uw.trans hW))
        rw [show (l[j].1, l[j].2.1) = imL l[j] from rfl, get_v] at this
        exact this
      have hmd : matchB x l[j] = (decide (hasN x (imL l[j]) = l[j].2.2.1) && decide (valR x (imL l[j]) = l[j].2.2.2.1)) := rfl
      have HMJ : Hid (matchB x l[j] = false → rdx x l = ([], 5)) := fun hm => rdx_miss hlt hm
      obtain ⟨m, hm⟩ : ∃ m, m = matchB x l[j] := ⟨_, rfl⟩
      rw [← hm] at hmd
      have HMM := Lib.hid hm
      generalize hasN x (imL l[j]) = hb at *
      generalize valR x (imL l[j]) = hv at *
      generalize l[j].2.2.1 = had at *
      generalize l[j].2.2.2.1 = old at *
      have CG := Lib.hid cg
      clear cg hpl hc0 hc1 hc2 hc3 hc4 hc5 hm so nd
      obtain ⟨WA, hWA⟩ : ∃ WA, WA = wr.alloc (.cells #[.string l[j].1, .slice A2 l[j].2.1.length c2, .bool had, .string old, .bool l[j].2.2.2.2.1, .string l[j].2.2.2.2.2] 98) := ⟨_, rfl⟩
      have hkA := hk.up ua
      rw [← hWA] at kn ua hkA
      have HS0 : Hid (WA.cell? ⟨g, 0, none⟩ = some (.slice A x.length c) ∧ WA.cell? ⟨wr.heap.size, 0, none⟩ = some (.string l[j].1) ∧ WA.cell? ⟨wr.heap.size, 1, none⟩ = some (.slice A2 l[j].2.1.length c2)) := ⟨hkA.cell 0, kn.cell 0, kn.cell 1⟩
      go_wp2_with fail
      rw [← hWA]
      clear hWA
      go_region_held3 (fun W => W.cell? ⟨g, 0, none⟩ = some (.slice A x.length c) ∧ W.cell? ⟨wr.heap.size, 0, none⟩ = some (.string l[j].1) ∧ W.cell? ⟨wr.heap.size, 1, none⟩ = some (.slice A2 l[j].2.1.length c2))
        (first | exact HS0.out | exact up3 (Up.refl WA).drew HS0.out | exact up3 u3 HS0.out)
        (first
          | (go_at_call 58
             refine (CG.out _ (by first | exact ua | exact ua.drew)).mono ?_
             rintro e w3 ⟨rfl, u3'⟩
             have u3 : Up WA w3 := (by first | exact u3' | exact (Up.refl WA).drew.trans u3')))
      have ua3 := ua.trans u3
      have kn3 := kn.up u3
      have n2 : w3.cell? ⟨wr.heap.size, 2, none⟩ = some (.bool had) := kn3.cell 2
      have n3 : w3.cell? ⟨wr.heap.size, 3, none⟩ = some (.string old) := kn3.cell 3
      by_cases hq : hb = had ∧ hv = old
      · obtain ⟨rfl, rfl⟩ := hq
        have HMT : Hid (∀ q (hq : q < l.length), q < j + 1 → matchB x l[q] = true) := fun q hq h => by
          by_cases e : q = j
          · subst e; rw [← HMM.out, hmd]; simp
          · exact HM.out q hq (by omega)
        clear hmd HMM HMJ
        go_wp2_with fail
        go_roundw
        case rel => exact ⟨j + 1, by omega, by go_num, HMT, hu.trans ua3⟩
        case measure => simp [intOf]; omega
      · have hmf : m = false := by rw [hmd]; simp only [Bool.and_eq_false_iff, decide_eq_false_iff_not]; exact Decidable.not_and_iff_or_not.1 hq
        have HD : Hid (rdx x l = ([], 5)) := HMJ.out (HMM.out ▸ hmf)
        clear HMJ HMM hmd hmf
        by_cases hq1 : hb = had
        · subst hq1
          have hq2 : ¬ hv = old := fun e => hq ⟨rfl, e⟩
          have hq3 : (hv.toList == old.toList) = false := by rw [str_beq]; simp [hq2]
          clear hq
          go_wp2_with fail
          go_ret
          rw [HD.out]
          exact RdP.mk rfl (OTp.same h (hu.trans ua3)) (by simp)
        · have hq3 : (hb == had) = false := by simpa using hq1
          have hq4 : (hb != had) = true := by simpa using hq1
          clear hq
          go_wp2_with fail
          go_ret
          rw [HD.out]
          exact RdP.mk rfl (OTp.same h (hu.trans ua3)) (by simp)
    · have HU := hu
      have HH : Hid (rdx x l = putAll (dropAll x l) l) := rdx_hit fun q hq => HM.out q hq (by omega)
      clear HM hu uw ot
      go_wp2_with fail
      go_loopw [46] (fun i wr => ∃ (j : Nat) (y : TTree), j ≤ l.length ∧ i = .int .i64 j ∧ OTp w0.heap.size w g bl y wr ∧ Hid (TreeP y) ∧ Hid (y = dropAll x (l.take j))) (fun i _ => l.length - (intOf i).toNat)
      case atStart => exact ⟨0, x, Nat.zero_le _, rfl, OTp.same h HU, HX, by rfl⟩
      case round =>
        clear HU
        obtain ⟨j, y, hj, rfl, op, HP, HC⟩ := hrel
        have uw := op.upw u0 hg (fun y hy => (HIN.out y hy).1)
        obtain ⟨bl1, ot, mem, on⟩ := op
        obtain ⟨A, c, hk, so, nd, hgn⟩ := ot
        by_cases hlt : j < l.length
        · obtain ⟨g2, off, A2, c2, rfl, _, hg2l, hc0, hc1, hc2, hc3, hc4, hc5, b0, b1, b3, b5, _⟩ := atImage k hlt
          have q0 := (uw.cell (cell_lt hc0)).trans hc0
          have q1 := (uw.cell (cell_lt hc1)).trans hc1
          have q2 := (uw.cell (cell_lt hc2)).trans hc2
          have q3 := (uw.cell (cell_lt hc3)).trans hc3
          have q4 := (uw.cell (cell_lt hc4)).trans hc4
          have q5 := (uw.cell (cell_lt hc5)).trans hc5
          have hkl := hk.lt
          have kn := Bk.new wr 98 #[.string l[j].1, .slice A2 l[j].2.1.length c2, .bool l[j].2.2.1, .string l[j].2.2.2.1, .bool l[j].2.2.2.2.1, .string l[j].2.2.2.2.2]
          have ua : Up wr (wr.alloc (.cells #[.string l[j].1, .slice A2 l[j].2.1.length c2, .bool l[j].2.2.1, .string l[j].2.2.2.1, .bool l[j].2.2.2.2.1, .string l[j].2.2.2.2.2] 98)) := (Up.refl wr).alloc _
          have hpl := img_place (HIM.out j hlt)
          have cg : ∀ W, Up wr W → Calls Tryz.prog 108 #[.agg #[.slice A y.length c], .string l[j].1, .slice A2 l[j].2.1.length c2] W (RetV (.tuple #[.int .i64 (posN y (imL l[j])), .bool (hasN y (imL l[j]))]) W) := fun W hW =>
            c_place y HP.out _ l[j].1 l[j].2.1 A2 c2 W (AV.up good_Tree ⟨_, rfl, mkTree (SR.of_own good_Node so)⟩ hW) (b1.up good_S (uw.trans hW)) b0 (placeB_small hpl.1) (tab_up htab (uw.trans hW))
          have HDS : dropAll x (l.take (j + 1)) = dropI y l[j] := by rw [dropAll_succ x l hlt, ← HC.out]
          have hcase : (hasN y (imL l[j]) = true ∧ l[j].2.2.2.2.1 = false ∧ dropI y l[j] = y.take (posN y (imL l[j])) ++ y.drop (posN y (imL l[j]) + 1) ∧ posN y (imL l[j]) < y.length) ∨ (¬ (hasN y (imL l[j]) = true ∧ l[j].2.2.2.2.1 = false) ∧ dropI y l[j] = y) := by
            unfold dropI dropT
            cases hh : l[j].2.2.2.2.1
            · cases hb : hasN y (imL l[j])
              · right; simp
              · left
                obtain ⟨hp, _⟩ := has_at hb
                simp [hp]
            · right; simp
          have HPD : TreeP (dropI y l[j]) := dropI_P HP.out
          rw [← HDS] at HPD hcase
          obtain ⟨Y, hGY⟩ : ∃ Y, Y = dropAll x (l.take (j + 1)) := ⟨_, rfl⟩
          rw [← hGY] at HPD hcase
          have HPD' := Lib.hid HPD
          have HGY := Lib.hid hGY
          generalize hasN y (imL l[j]) = hb at *
          generalize posN y (imL l[j]) = p at *
          generalize l[j].2.2.2.2.1 = has at *
          have CG := Lib.hid cg
          have SOH := Lib.hid so
          clear cg hpl hc0 hc1 hc2 hc3 hc4 hc5 so HPD HDS hGY
          obtain ⟨WA, hWA⟩ : ∃ WA, WA = wr.alloc (.cells #[.string l[j].1, .slice A2 l[j].2.1.length c2, .bool l[j].2.2.1, .string l[j].2.2.2.1, .bool has, .string l[j].2.2.2.2.2] 98) := ⟨_, rfl⟩
          have hkA := hk.up ua
          rw [← hWA] at kn ua hkA
          have HS0 : Hid (WA.cell? ⟨g, 0, none⟩ = some (.slice A y.length c) ∧ WA.cell? ⟨wr.heap.size, 0, none⟩ = some (.string l[j].1) ∧ WA.cell? ⟨wr.heap.size, 1, none⟩ = some (.slice A2 l[j].2.1.length c2)) := ⟨hkA.cell 0, kn.cell 0, kn.cell 1⟩
          go_wp2_with fail
          rw [← hWA]
          clear hWA
          go_region_held3 (fun W => W.cell? ⟨g, 0, none⟩ = some (.slice A y.length c) ∧ W.cell? ⟨wr.heap.size, 0, none⟩ = some (.string l[j].1) ∧ W.cell? ⟨wr.heap.size, 1, none⟩ = some (.slice A2 l[j].2.1.length c2))
            (first | exact HS0.out | exact up3 (Up.refl WA).drew HS0.out | exact up3 u3 HS0.out)
            (first
              | (go_at_call 108
                 refine (CG.out _ (by first | exact ua | exact ua.drew)).mono ?_
                 rintro e w3 ⟨rfl, u3'⟩
                 have u3 : Up WA w3 := (by first | exact u3' | exact (Up.refl WA).drew.trans u3')))
          have ua3 := ua.trans u3
          have kn3 := kn.up u3
          have hk3 := hk.up ua3
          have n4 : w3.cell? ⟨wr.heap.size, 4, none⟩ = some (.bool has) := kn3.cell 4
          rcases hcase with ⟨rfl, rfl, hY, hp⟩ | ⟨hno, hY⟩
          · have g3 := hk3.cell 0
            have hwr : IntKind.i64.wrap ((p : Int) + 1) = (p : Int) + 1 := IntWalk.i64_in _ (by have := SOH.out.2.1; have := SOH.out.1; unfold maxLen at *; omega)
            have cd := c_DeleteNode A c y p hp w0.heap.size bl1 w3 (SOH.out.up good_Node ua3) nd
            rw [← hY] at cd
            have CD := Lib.hid cd
            have HY := Lib.hid hY
            clear cd hY
            go_wp2_with fail
            refine CD.out.mono ?_
            rintro e w4 ⟨D, d1, bl4, rfl, hrow⟩
            have hk4 := hk3.only hrow.2.2.2 hgn
            have g4 := hk4.cell 0
            have f4 := hk4.frozen 0
            go_wp2_with fail
            go_roundw
            case rel => exact ⟨j + 1, Y, by omega, by go_num, OTp.then mem (on.up ua3) (OTp.store rfl hk3 hgn hrow), HPD', HGY.out⟩
            case measure => simp [intOf]; omega
          · subst hY
            have hop : OTp w0.heap.size w g bl Y w3 := OTp.then mem (on.up ua3) (OTp.same ⟨A, c, hk3, SOH.out.up good_Node ua3, nd, hgn⟩ (Up.refl _))
            cases hb
            · go_wp2_with fail
              go_roundw
              case rel => exact ⟨j + 1, Y, by omega, by go_num, hop, HPD', HGY.out⟩
              case measure => simp [intOf]; omega
            · cases has
              · exact absurd ⟨rfl, rfl⟩ hno
              · go_wp2_with fail
                go_roundw
                case rel => exact ⟨j + 1, Y, by omega, by go_num, hop, HPD', HGY.out⟩
                case measure => simp [intOf]; omega
        · have HY : Hid (rdx x l = putAll y l) := by unfold Hid; rw [HH.out, HC.out, List.take_of_length_le (by omega)]
          have OP : Hid (OTp w0.heap.size w g bl y wr) := ⟨bl1, ⟨A, c, hk, so, nd, hgn⟩, mem, on⟩
          clear HC HH mem on hk so nd hgn uw
          go_wp2_with fail
          go_loopw [81] (fun i wr => ∃ (j : Nat) (y : TTree), j ≤ l.length ∧ i = .int .i64 j ∧ OTp w0.heap.size w g bl y wr ∧ Hid (TreeP y) ∧ Hid (rdx x l = putAll y (l.drop j))) (fun i _ => l.length - (intOf i).toNat)
          case atStart => exact ⟨0, y, Nat.zero_le _, rfl, OP.out, HP, by rw [List.drop_zero]; exact HY⟩
          case round =>
            clear OP HY HP
            obtain ⟨j, y, hj, rfl, op, HP, HC⟩ := hrel
            have uw := op.upw u0 hg (fun y hy => (HIN.out y hy).1)
            by_cases hlt : j < l.length
            · obtain ⟨g2, off, A2, c2, rfl, _, hg2l, hc0, hc1, hc2, hc3, hc4, hc5, b0, b1, b3, b5, _⟩ := atImage k hlt
              have q0 := (uw.cell (cell_lt hc0)).trans hc0
              have q1 := (uw.cell (cell_lt hc1)).trans hc1
              have q2 := (uw.cell (cell_lt hc2)).trans hc2
              have q3 := (uw.cell (cell_lt hc3)).trans hc3
              have q4 := (uw.cell (cell_lt hc4)).trans hc4
              have q5 := (uw.cell (cell_lt hc5)).trans hc5
              have ua : Up wr (wr.alloc (.cells #[.string l[j].1, .slice A2 l[j].2.1.length c2, .bool l[j].2.2.1, .string l[j].2.2.2.1, .bool l[j].2.2.2.2.1, .string l[j].2.2.2.2.2] 98)) := (Up.refl wr).alloc _
              cases hha : l[j].2.2.2.2.1
              · rw [hha] at q4 ua
                have HDT : Hid (rdx x l = putAll y (l.drop (j + 1))) := by unfold Hid; rw [HC.out, putAll_skip hlt hha]
                clear HC hha hc0 hc1 hc2 hc3 hc4 hc5
                go_wp2_with fail
                go_roundw
                case rel => exact ⟨j + 1, y, by omega, by go_num, op.up ua, HP, HDT⟩
                case measure => simp [intOf]; omega
              · rw [hha] at q4 ua
                obtain ⟨bl1, ot, mem, on⟩ := op
                have hpl := img_place (HIM.out j hlt)
                have hws := uw.size
                have cp : ∀ W, Up wr W → Calls Tryz.prog 120 #[.pointer (some ⟨g, 0, none⟩), .string l[j].1, .slice A2 l[j].2.1.length c2, .string l[j].2.2.2.2.2] W fun e w' => e = .returned (.int .i64 (putC y (imL l[j]))) ∧ OTp w0.heap.size W g bl1 (putK y (imL l[j]) l[j].2.2.2.2.2) w' := fun W hW =>
                  c_put g y bl1 w0.heap.size W (ot.up hW) (Nat.le_trans hws hW.size) HP.out l[j].1 l[j].2.1 A2 c2 l[j].2.2.2.2.2 (b1.up good_S (uw.trans hW)) b0 (placeB_small hpl.1) (by have := subs_len hpl.1; omega) b5 (tab_up htab (uw.trans hW))
                have hcase : (¬ putC y (imL l[j]) = 0 ∧ rdx x l = ([], putC y (imL l[j]))) ∨ (putC y (imL l[j]) = 0 ∧ rdx x l = putAll (putK y (imL l[j]) l[j].2.2.2.2.2) (l.drop (j + 1)) ∧ TreeP (putK y (imL l[j]) l[j].2.2.2.2.2)) := by
                  rw [HC.out]
                  by_cases hz : putC y (imL l[j]) = 0
                  · right
                    refine ⟨hz, ?_, ?_⟩
                    · rw [putAll_step hlt hha hz]; unfold putK; rw [if_pos hz]
                    · unfold putK; rw [if_pos hz]; exact putT_P HP.out hpl.1 hpl.2 (putC_ok hz)
                  · left
                    exact ⟨hz, putAll_stop hlt hha hz⟩
                generalize putC y (imL l[j]) = q at *
                generalize putK y (imL l[j]) l[j].2.2.2.2.2 = R at *
                have CP := Lib.hid cp
                clear cp hc0 hc1 hc2 hc3 hc4 hc5 hha hpl HC ot
                rcases hcase with ⟨hq, hres⟩ | ⟨rfl, hres, hPR⟩
                · have hqb : (q != 0) = true := by simpa using hq
                  have HRES := Lib.hid hres
                  clear hres
                  go_wp2_with fail
                  refine (CP.out _ ua).mono ?_
                  rintro e w4 ⟨rfl, op4⟩
                  go_wp2_with fail
                  go_ret
                  exact RdP.mk (by rw [HRES.out]) (OTp.then mem (on.up ua) op4) (by rw [HRES.out]; exact fun h => absurd h hq)
                · have HRES := Lib.hid hres
                  have HPR := Lib.hid hPR
                  clear hres hPR
                  go_wp2_with fail
                  refine (CP.out _ ua).mono ?_
                  rintro e w4 ⟨rfl, op4⟩
                  go_wp2_with fail
                  go_roundw
                  case rel => exact ⟨j + 1, R, by omega, by go_num, OTp.then mem (on.up ua) op4, HPR, HRES⟩
                  case measure => simp [intOf]; omega
            · have HRES : Hid (rdx x l = (y, 0)) := by unfold Hid; rw [HC.out, List.drop_eq_nil_of_le (by omega)]; rfl
              clear HC
              go_wp2_with fail
              go_ret
              exact RdP.mk (by rw [HRES.out]) op (by rw [HRES.out]; simp)
theorem putAll_code : ∀ (l : List TImage) (y : TTree), (putAll y l).2 ≠ 0 → (putAll y l).1 = []
  | [], y => fun h => absurd rfl h
  | i :: l, y => by
    unfold putAll
    split
    · split
      · exact putAll_code l _
      · intro _; rfl
    · exact putAll_code l _
theorem rdx_code (x : TTree) (l : List TImage) (hn : (rdx x l).2 ≠ 0) : (rdx x l).1 = [] := by
  revert hn
  unfold rdx
  split
  · intro _; rfl
  · exact putAll_code _ _
set_option maxRecDepth 100000 in
set_option maxHeartbeats 8000000 in
theorem ci_Redo (v : Value) (x : TTree) (B : Option Addr) (d : Nat) (l : List TImage) (w : World) (h : AV shTree w v x) (hn : shTree.sz x ≤ 1048576) (k : SRW shImage w B d l) (hl : (shL shImage).sz l ≤ 1048576) (htab : Tab w) :
    Calls Tryz.prog 40 #[v, .slice B l.length d] w (ToR shTree (redo x l).1 (redo x l).2 w) := by
  have hvv := h
  obtain ⟨cs, rfl, h⟩ := h
  obtain ⟨A0, c0, rfl, b00⟩ := openTree h
  clear h
  have hlen := k.len_le
  obtain ⟨W0, hW0⟩ : ∃ W0, W0 = ((w.alloc (.cells #[.slice A0 x.length c0] 32)).alloc (.cells #[.slice none 0 0] 32)) := ⟨_, rfl⟩
  have u0 : Up w W0 := by rw [hW0]; exact ((Up.refl w).alloc _).alloc _
  have ka0 : Bk W0 w.heap.size 32 #[.slice A0 x.length c0] := by rw [hW0]; exact (Bk.new _ _ _).alloc _
  have kr0 : Bk W0 (w.heap.size + 1) 32 #[.slice none 0 0] := by rw [hW0]; simpa using Bk.new (w.alloc (.cells #[.slice A0 x.length c0] 32)) 32 #[.slice none 0 0]
  have hs0 : W0.heap.size = w.heap.size + 2 := by rw [hW0]; simp
  have ct := fun W (hW : Up w W) => c_implTreeOk _ x W (hvv.up good_Tree hW) hn (tab_up htab hW)
  have ci := fun W (hW : Up w W) => c_implImagesOk l B d W (k.up good_Image hW) hl (tab_up htab hW)
  have CI := Lib.hid ci
  cases ht : treeB x
  · have HD : Hid (redo x l = ([], 1)) := by unfold Hid redo; rw [if_neg (by rw [ht]; simp)]
    rw [ht] at ct
    have CT := Lib.hid ct
    clear ct ht ci
    go_enter Tryz.func40, Tryz.ntmps40
    go_wp2_with fail
    rw [← hW0]
    refine (CT.out _ u0).mono ?_
    rintro e w1 ⟨rfl, u1⟩
    have kr1 := kr0.up u1
    have gr1 := kr1.cell 0
    have fr1 := kr1.frozen 0
    clear hW0
    go_wp2_with fail
    refine bodyPost_ret (v := .tuple #[.agg #[.slice none 0 0], .int .i64 1]) (by simp [results, Tryz.results40, go_sem, gr1]) rfl ?_
    rw [HD.out]
    exact zeroTree _ _ _ ((u0.trans u1).setCell (by simp) _)
  rw [ht] at ct
  have CT := Lib.hid ct
  clear ct
  cases hi : imagesB l
  · have HD : Hid (redo x l = ([], 1)) := by unfold Hid redo; rw [if_neg (by rw [hi]; simp)]
    rw [hi] at CI
    clear ht ci hi
    go_enter Tryz.func40, Tryz.ntmps40
    go_wp2_with fail
    rw [← hW0]
    refine (CT.out _ u0).mono ?_
    rintro e w1 ⟨rfl, u1⟩
    have kr1 := kr0.up u1
    go_wp2_with fail
    refine (CI.out _ (u0.trans u1)).mono ?_
    rintro e w2 ⟨rfl, u2⟩
    have kr2 := kr1.up u2
    have gr2 := kr2.cell 0
    have fr2 := kr2.frozen 0
    clear hW0
    go_wp2_with fail
    refine bodyPost_ret (v := .tuple #[.agg #[.slice none 0 0], .int .i64 1]) (by simp [results, Tryz.results40, go_sem, gr2]) rfl ?_
    rw [HD.out]
    exact zeroTree _ _ _ (((u0.trans u1).trans u2).setCell (by simp) _)
  have hTP := treeP_of ht
  have hIP : ImagesP l := of_decide_eq_true hi
  have HD := Lib.hid (redo_rdx ht hi)
  have cc := fun W (hW : Up w W) => c_copyTree _ x W (hvv.up good_Tree hW) (by have := hTP.1; omega) (treeP_subs hTP)
  have CC := Lib.hid cc
  have HTP := Lib.hid hTP
  have HIP : Hid (∀ i (h : i < l.length), imgB l[i] = true) := fun i h => (hIP.2 i h).1
  rw [hi] at CI
  clear cc ht hTP hi hIP ci
  go_enter Tryz.func40, Tryz.ntmps40
  go_wp2_with fail
  rw [← hW0]
  refine (CT.out _ u0).mono ?_
  rintro e w1' ⟨rfl, u1'⟩
  go_wp2_with fail
  refine (CI.out _ (u0.trans u1')).mono ?_
  rintro e w1 ⟨rfl, u1''⟩
  have u1 := u1'.trans u1''
  have kr1 := kr0.up u1
  have ga1 : w1.cell? ⟨w.heap.size, 0, none⟩ = some (.slice A0 x.length c0) := (ka0.up u1).cell 0
  have uu1 := u0.trans u1
  have hk1 := kr1.lt
  clear hW0
  go_wp2_with fail
  refine (CC.out _ uu1).mono ?_
  rintro e w2 ⟨cs2, bl2, rfl, o2, nd2, u2⟩
  obtain ⟨D2, d2, _, rfl, rfl, o4⟩ := openOTree o2
  have u2a : Up w2 (w2.alloc (.cells #[.slice D2 x.length d2] 32)) := (Up.refl w2).alloc _
  have kr2 := (kr1.up u2).up u2a
  have hin2 := o4.in_ good_Node
  have hot : OT w1.heap.size (w2.alloc (.cells #[.slice D2 x.length d2] 32)) w2.heap.size x bl2 := ⟨D2, d2, Bk.new _ _ _, o4.up good_Node u2a, nd2, fun hm => by have := (hin2 _ hm).2; omega⟩
  have uu2 := (uu1.trans u2).trans u2a
  have hw1 : w.heap.size + 2 ≤ w1.heap.size := by have := u1.size; omega
  have hw2 : w1.heap.size ≤ w2.heap.size := u2.size
  have cr := c_redo w1 w2.heap.size x bl2 _ hot (u2.trans u2a) hw2 HTP.out B d l (k.up good_Image uu1) HIP.out (tab_up htab uu1)
  have CR := Lib.hid cr
  clear cr
  go_wp2_with fail
  refine CR.out.mono ?_
  rintro e w3 ⟨y, rfl, op3, hy⟩
  have u3 : Up w1 w3 := op3.upw (u2.trans u2a) hw2 (fun y hy => (hin2 y hy).1)
  obtain ⟨bl3, ⟨A3, c3, hk3, so3, nd3, hg3⟩, mem3, on3⟩ := op3
  have uu3 := uu1.trans u3
  have kr3 := kr1.up u3
  have gr3 := kr3.cell 0
  have fr3 := kr3.frozen 0
  have gx3 := hk3.cell 0
  by_cases hq : (rdx x l).2 = 0
  · have HY := Lib.hid (hy hq)
    have HQ := Lib.hid hq
    rw [hq]
    clear hy hq
    go_wp2_with fail
    have z4 := (so3.set good_Node (w.heap.size + 1) 0 [.slice A3 y.length c3] (by omega)).wide good_Node (lo' := w.heap.size) (by omega) (Nat.le_refl _)
    refine bodyPost_ret (v := .tuple #[.agg #[.slice A3 y.length c3], .int .i64 0]) (by simp [results, Tryz.results40, go_sem, gr3]) rfl ?_
    rw [HD.out, HQ.out, ← HY.out]
    exact ⟨[.slice A3 y.length c3], _, rfl, mkOTree z4, nd3, uu3.setCell (by simp) _⟩
  · have HE := Lib.hid (rdx_code x l hq)
    obtain ⟨q, hqe⟩ : ∃ q, q = (rdx x l).2 := ⟨_, rfl⟩
    have hq0 : (q != 0) = true := by rw [hqe]; simpa using hq
    have HQ := Lib.hid hqe
    rw [← hqe]
    clear hy hq hqe
    go_wp2_with fail
    refine bodyPost_ret (v := .tuple #[.agg #[.slice none 0 0], .int .i64 q]) (by simp [results, Tryz.results40, go_sem, gr3]) rfl ?_
    rw [HD.out, HE.out, ← HQ.out]
    exact zeroTree _ _ _ (uu3.setCell (by simp) _)
end Go.Proofs.YtanjmolgpkffoaaGreatDoor
