/-
  Contracts of functions that compare slices.
  GetNode: both sides' contracts.
  Rows as lists of cells: an owned slice opened into its cells, and made of them. No program is named here.
  slices.Insert of one node, wherever there is room or not.
  Contracts of slices.Clone at flat elements.
-/
import Derived.Test.YtanjmolgpkffoaaGreatDoorRows
import Derived.Test.YtanjmolgpkffoaaGreatDoorM2E
import Derived.Test.YtanjmolgpkffoaaGreatDoorM2A
import Derived.StillTailTactics
import Derived.Test.YtanjmolgpkffoaaGreatDoorM2F
import Derived.BigQuiet
import Derived.Deep.QuietTactic
import Derived.Shelf.Spec.SlicesInsert
import Derived.Lib.AppendZerosOnto
import Derived.Lib.Overlaps
import Derived.OwnWalk
namespace Go.Proofs.YtanjmolgpkffoaaGreatDoor
open Go.RowKit
set_option linter.unusedSimpArgs false
set_option linter.unusedVariables false



set_option maxRecDepth 100000 in
set_option maxHeartbeats 1000000 in
theorem c_l02Same (xs ys : List ByteArray) (A B : Option Addr) (c d : Nat) (w : World) (h : SRW shS w A c xs) (k : SRW shS w B d ys) :
    Calls Tryz.prog 151 #[.slice A xs.length c, .slice B ys.length d] w (EqP (xs = ys) w) := by
  have hlen := h.len_le
  have klen := k.len_le
  by_cases hl : xs.length = ys.length
  · have hb : ((xs.length : Int) != (ys.length : Int)) = false := by simp [hl]
    have HL := Lib.hid hl; clear hl
    go_enter Tryz.func151, Tryz.ntmps151
    go_wp2
    go_loopw [5] (fun i wr => ∃ k : Nat, k ≤ xs.length ∧ i = .int .i64 k ∧ Hid (xs.take k = ys.take k) ∧ Up w wr) (fun i _ => xs.length - (intOf i).toNat)
    case atStart => exact ⟨0, Nat.zero_le _, rfl, rfl, Up.refl _⟩
    case round =>
      obtain ⟨j, hj, rfl, HT, hu⟩ := hrel
      by_cases hlt : j < xs.length
      · have hlt' : j < ys.length := by rw [← HL.out]; exact hlt
        obtain ⟨g, off, rfl, _, _, hc, hb1⟩ := (h.up good_S hu).at_S hlt
        obtain ⟨g', off', rfl, _, _, hc', hb2⟩ := (k.up good_S hu).at_S hlt'
        by_cases he : xs[j] = ys[j]
        · have hx : (xs[j].toList == ys[j].toList) = true := by rw [str_beq]; simp [he]
          have HE := Lib.hid he; clear he
          go_wp2
          go_quiet (fail)
          go_wp2
          go_roundw
          case rel => exact ⟨j + 1, by omega, by go_num, take_snoc_eq HT.out hlt hlt' HE.out, hu.drewN _⟩
          case measure => simp [intOf]; omega
        · have hx : (xs[j].toList == ys[j].toList) = false := by rw [str_beq]; simp [he]
          have HE := Lib.hid (ne_of_at hlt hlt' he); clear he
          go_wp2
          go_quiet (fail)
          go_wp2
          go_ret
          exact EqP.f HE.out (hu.drewN _)
      · have HE := Lib.hid (take_all_eq HT.out (by omega) (by rw [← HL.out]; omega))
        go_wp2
        go_ret
        exact EqP.t HE.out hu
  · have hb : ((xs.length : Int) != (ys.length : Int)) = true := by rw [bne_iff_ne]; omega
    have HE := Lib.hid (ne_of_len hl); clear hl
    go_enter Tryz.func151, Tryz.ntmps151
    go_wp2
    go_ret
    exact EqP.f HE.out (Up.refl _)


set_option maxRecDepth 100000 in
set_option maxHeartbeats 1000000 in
theorem c_slEqS (xs ys : List ByteArray) (A B : Option Addr) (c d : Nat) (w : World) (h : SRW shS w A c xs) (k : SRW shS w B d ys) :
    Calls Tryz.prog 166 #[.slice A xs.length c, .slice B ys.length d] w (EqP (xs = ys) w) := by
  have hlen := h.len_le
  have klen := k.len_le
  by_cases hl : xs.length = ys.length
  · have hb : ((xs.length : Int) != (ys.length : Int)) = false := by simp [hl]
    have HL := Lib.hid hl; clear hl
    go_enter Tryz.func166, Tryz.ntmps166
    go_wp2
    go_loopw [13] (fun i wr => ∃ k : Nat, k ≤ xs.length ∧ i = .int .i64 k ∧ Hid (xs.take k = ys.take k) ∧ Up w wr) (fun i _ => xs.length - (intOf i).toNat)
    case atStart => exact ⟨0, Nat.zero_le _, rfl, rfl, Up.refl _⟩
    case round =>
      obtain ⟨j, hj, rfl, HT, hu⟩ := hrel
      by_cases hlt : j < xs.length
      · have hlt' : j < ys.length := by rw [← HL.out]; exact hlt
        obtain ⟨g, off, rfl, _, _, hc, hb1⟩ := (h.up good_S hu).at_S hlt
        obtain ⟨g', off', rfl, _, _, hc', hb2⟩ := (k.up good_S hu).at_S hlt'
        by_cases he : xs[j] = ys[j]
        · have hx : (xs[j].toList == ys[j].toList) = true := by rw [str_beq]; simp [he]
          have HE := Lib.hid he; clear he
          go_wp2
          go_quiet (fail)
          go_wp2
          go_roundw
          case rel => exact ⟨j + 1, by omega, by go_num, take_snoc_eq HT.out hlt hlt' HE.out, hu.drewN _⟩
          case measure => simp [intOf]; omega
        · have hx : (xs[j].toList == ys[j].toList) = false := by rw [str_beq]; simp [he]
          have HE := Lib.hid (ne_of_at hlt hlt' he); clear he
          go_wp2
          go_quiet (fail)
          go_wp2
          go_ret
          exact EqP.f HE.out (hu.drewN _)
      · have HE := Lib.hid (take_all_eq HT.out (by omega) (by rw [← HL.out]; omega))
        go_wp2
        go_ret
        exact EqP.t HE.out hu
  · have hb : ((xs.length : Int) != (ys.length : Int)) = true := by rw [bne_iff_ne]; omega
    have HE := Lib.hid (ne_of_len hl); clear hl
    go_enter Tryz.func166, Tryz.ntmps166
    go_wp2
    go_ret
    exact EqP.f HE.out (Up.refl _)




end Go.Proofs.YtanjmolgpkffoaaGreatDoor

namespace Go.Proofs.YtanjmolgpkffoaaGreatDoor
open Go.RowKit
set_option linter.unusedVariables false
set_option linter.unusedSimpArgs false

def valN (x : TTree) (l : ByteArray × List ByteArray) : ByteArray := if h : posN x l < x.length then x[posN x l].2.2 else ⟨#[]⟩
def getV (x : TTree) (l : ByteArray × List ByteArray) : Value := if treeB x = true ∧ placeB l.1 l.2 = true ∧ hasN x l = true then .tuple #[.string (valN x l), .bool true] else .tuple #[.string ⟨#[]⟩, .bool false]
theorem c_specSameSubs (xs ys : List ByteArray) (A B : Option Addr) (c d : Nat) (w : World) (h : SRW shS w A c xs) (k : SRW shS w B d ys) :
    Calls Tryz.prog 103 #[.slice A xs.length c, .slice B ys.length d] w (EqP (xs = ys) w) := by
  go_enter Tryz.func103, Tryz.ntmps103
  go_wp2_with fail
  refine (c_l02Same _ _ _ _ _ _ _ h k).mono ?_
  rintro e w1 ⟨b, rfl, hb, u⟩
  go_wp2_with fail
  go_ret
  exact ⟨b, rfl, hb, u⟩
theorem hasN_lt {x : TTree} {l : ByteArray × List ByteArray} (h : hasN x l = true) : ∃ hp : posN x l < x.length, valN x l = x[posN x l].2.2 := by
  unfold hasN at h
  by_cases hp : posN x l < x.length
  · exact ⟨hp, by unfold valN; rw [dif_pos hp]⟩
  · rw [dif_neg hp] at h; cases h
theorem treeP_of {x : TTree} (h : treeB x = true) : TreeP x := of_decide_eq_true h
set_option maxHeartbeats 4000000 in
theorem c_place (x : TTree) (hx : TreeP x) (v : Value) (s : ByteArray) (ys : List ByteArray) (B : Option Addr) (d : Nat) (w : World) (h : AV shTree w v x) (k : SRW shS w B d ys) (hs : s.size ≤ maxLen) (st : Small ys) (htab : Tab w) :
    Calls Tryz.prog 108 #[v, .string s, .slice B ys.length d] w (RetV (.tuple #[.int .i64 (posN x (s, ys)), .bool (hasN x (s, ys))]) w) := by
  obtain ⟨cs, rfl, h⟩ := h
  obtain ⟨A0, c0, rfl, b00⟩ := openTree h
  clear h
  have sx := treeP_small hx
  have uu : Up w (w.alloc (.cells #[.slice A0 x.length c0] 32)) := (Up.refl w).alloc _
  have cb := fun W (hW : Up w W) => c_BinarySearch x hx sx A0 c0 (s, ys, ⟨#[]⟩) B d W (b00.up good_Node hW) (k.up good_S hW) hs (show (ByteArray.mk #[]).size ≤ maxLen by unfold maxLen; decide) st (tab_up htab hW)
  have CB := Lib.hid cb
  clear cb hx sx st
  simp only [locOf] at CB
  generalize posN x (s, ys) = p at *
  generalize hasN x (s, ys) = b at *
  go_enter Tryz.func108, Tryz.ntmps108
  go_wp2_with fail
  refine (CB.out _ uu).mono ?_
  rintro e w1 ⟨rfl, u1⟩
  go_wp2_with fail
  go_ret2
  exact ⟨rfl, uu.trans u1⟩
set_option maxHeartbeats 4000000 in
theorem c_get (x : TTree) (hx : TreeP x) (v : Value) (s : ByteArray) (ys : List ByteArray) (B : Option Addr) (d : Nat) (w : World) (h : AV shTree w v x) (k : SRW shS w B d ys) (hs : s.size ≤ maxLen) (st : Small ys) (htab : Tab w) :
    Calls Tryz.prog 58 #[v, .string s, .slice B ys.length d] w (RetV (if hasN x (s, ys) = true then .tuple #[.string (valN x (s, ys)), .bool true] else .tuple #[.string ⟨#[]⟩, .bool false]) w) := by
  have hv := h
  obtain ⟨cs, rfl, h⟩ := h
  obtain ⟨A0, c0, rfl, b00⟩ := openTree h
  clear h
  have kb := Bk.new w 32 #[.slice A0 x.length c0]
  have uu : Up w (w.alloc (.cells #[.slice A0 x.length c0] 32)) := (Up.refl w).alloc _
  have cp := fun W (hW : Up w W) => c_place x hx _ s ys B d W (hv.up good_Tree hW) (k.up good_S hW) hs st (tab_up htab hW)
  cases hb : hasN x (s, ys)
  · rw [hb] at cp
    have CP := Lib.hid cp
    clear cp hx st hb
    rw [if_neg (by simp)]
    go_enter Tryz.func58, Tryz.ntmps58
    go_wp2_with fail
    refine (CP.out _ uu).mono ?_
    rintro e w1 ⟨rfl, u1⟩
    go_wp2_with fail
    go_ret2
    exact ⟨rfl, uu.trans u1⟩
  · obtain ⟨hp, hval⟩ := hasN_lt hb
    rw [hb] at cp
    have CP := Lib.hid cp
    rw [if_pos rfl, hval]
    clear cp hx st hb hval
    generalize posN x (s, ys) = p at *
    go_enter Tryz.func58, Tryz.ntmps58
    go_wp2_with fail
    refine (CP.out _ uu).mono ?_
    rintro e w1 ⟨rfl, u1⟩
    have g0 : w1.cell? ⟨w.heap.size, 0, none⟩ = some (.slice A0 x.length c0) := (kb.up u1).cell 0
    obtain ⟨g, off, A2, c2, rfl, _, hgl, hc0, hc1, hc2, b0, b1, b2, _⟩ := atNode (b00.up good_Node (uu.trans u1)) hp
    go_wp2_with fail
    go_ret2
    exact ⟨rfl, uu.trans u1⟩
theorem hasN_at {x : TTree} {l : ByteArray × List ByteArray} {k : Nat} (hp : posN x l = k) (h : k < x.length) : hasN x l = decide (locOf x[k] = l) := by
  unfold hasN
  rw [dif_pos (by rw [hp]; exact h)]
  simp only [hp]
theorem hasN_end {x : TTree} {l : ByteArray × List ByteArray} {k : Nat} (hp : posN x l = k) (h : ¬ k < x.length) : hasN x l = false := by
  unfold hasN
  rw [dif_neg (by rw [hp]; exact h)]
set_option maxRecDepth 100000 in
set_option maxHeartbeats 8000000 in
theorem c_l03At (x : TTree) (v : Value) (s : ByteArray) (ys : List ByteArray) (B : Option Addr) (d : Nat) (w : World) (h : AV shTree w v x) (k : SRW shS w B d ys) :
    Calls Tryz.prog 54 #[v, .string s, .slice B ys.length d] w (RetV (.tuple #[.int .i64 (posN x (s, ys)), .bool (hasN x (s, ys))]) w) := by
  obtain ⟨cs, rfl, h⟩ := h
  obtain ⟨A0, c0, rfl, b00⟩ := openTree h
  clear h
  have hlen := b00.len_le
  have kb0 := Bk.new w 32 #[.slice A0 x.length c0]
  have uu : Up w (w.alloc (.cells #[.slice A0 x.length c0] 32)) := (Up.refl w).alloc _
  go_enter Tryz.func54, Tryz.ntmps54
  go_wp2_with fail
  go_loopw [8] (fun i wr => ∃ k : Nat, k ≤ x.length ∧ i = .int .i64 k ∧ Hid (∀ a (h : a < x.length), a < k → locLt (locOf x[a]) (s, ys) = true) ∧ Up (w.alloc (.cells #[.slice A0 x.length c0] 32)) wr) (fun i _ => x.length - (intOf i).toNat)
  case atStart => exact ⟨0, Nat.zero_le _, rfl, fun a h ha => absurd ha (by omega), Up.refl _⟩
  case round =>
    obtain ⟨n, hn, rfl, HA, hu⟩ := hrel
    have kb := kb0.up hu
    have g0 : wr.cell? ⟨w.heap.size, 0, none⟩ = some (.slice A0 x.length c0) := kb.cell 0
    by_cases hlt : n < x.length
    · obtain ⟨g, off, A2, c2, rfl, _, hgl, hc0, hc1, hc2, b0, b1, b2, _⟩ := atNode (b00.up good_Node (uu.trans hu)) hlt
      have q0 := fun t' : UpT wr => cell_up t' g0
      have p0 := fun t' : UpT wr => cell_up t' hc0
      have p1 := fun t' : UpT wr => cell_up t' hc1
      have cc := fun W (hW : Up wr W) => c_l03Less x[n].1 s x[n].2.1 ys A2 B c2 d W (SR.up good_S b1 hW) (SR.up good_S k ((uu.trans hu).trans hW))
      cases hL : locLt (locOf x[n]) (s, ys)
      · have hpos : posN x (s, ys) = n := posN_eq hn HA.out (fun hq => hL)
        have hhas := hasN_at hpos hlt
        have HP := Lib.hid hpos
        have HH := Lib.hid hhas
        simp only [locOf] at hL
        rw [hL] at cc
        have CC := Lib.hid cc
        clear cc hL hpos hhas
        go_wp2_with fail
        refine wp_region_up (by kernel_rfl) (by kernel_rfl) ?_
        repeat (go_big_quiet_step ((go_at_call 61; exact up_call (CC.out _ (UpT.up _)) (UpT.up _))))
        refine wpQuiet_nil ?_
        rintro w1 ⟨⟨w1', u1⟩, rfl⟩
        have g1 : w1.cell? ⟨w.heap.size, 0, none⟩ = some (.slice (some ⟨g, off, none⟩) x.length c0) := (u1.cell (cell_lt g0)).trans g0
        have e0 : w1.cell? ⟨g, off + n * 3, none⟩ = some (.string x[n].1) := (u1.cell (cell_lt hc0)).trans hc0
        have e1 : w1.cell? ⟨g, off + n * 3 + 1, none⟩ = some (.slice A2 x[n].2.1.length c2) := (u1.cell (cell_lt hc1)).trans hc1
        by_cases hnm : x[n].1 = s
        · have hbe : (x[n].1.toList == s.toList) = true := by rw [str_beq]; simp [hnm]
          have cs := fun W (hW : Up wr W) => c_specSameSubs x[n].2.1 ys A2 B c2 d W (SR.up good_S b1 hW) (SR.up good_S k ((uu.trans hu).trans hW))
          have CS := Lib.hid cs
          have HNM := Lib.hid hnm
          clear cs hnm
          go_wp2_with fail
          refine (CS.out _ u1).mono ?_
          rintro e w2 ⟨bb, rfl, hbb, u2⟩
          have HQ : Hid (hasN x (s, ys) = bb) := by
            unfold Hid
            rw [HH.out]
            cases bb
            · refine decide_eq_false fun hq => ?_
              have := congrArg Prod.snd hq
              simp only [locOf] at this
              exact absurd (hbb.2 this) (by simp)
            · refine decide_eq_true ?_
              show (x[n].1, x[n].2.1) = (s, ys)
              rw [HNM.out, hbb.1 rfl]
          clear hbb
          go_wp2_with fail
          go_ret2
          exact ⟨by rw [HP.out, HQ.out]; first | done | rfl, ((uu.trans hu).trans u1).trans u2⟩
        · have hbe : (x[n].1.toList == s.toList) = false := by rw [str_beq]; simp [hnm]
          have HQ : Hid (hasN x (s, ys) = false) := by
            unfold Hid
            rw [HH.out]
            exact decide_eq_false fun hq => hnm (congrArg Prod.fst hq)
          clear hnm
          go_wp2_with fail
          go_ret2
          exact ⟨by rw [HP.out, HQ.out]; first | done | rfl, (uu.trans hu).trans u1⟩
      · have HN : Hid (∀ a (h : a < x.length), a < n + 1 → locLt (locOf x[a]) (s, ys) = true) := fun a h ha => by
          by_cases e : a = n
          · subst e; exact hL
          · exact HA.out a h (by omega)
        simp only [locOf] at hL
        rw [hL] at cc
        have CC := Lib.hid cc
        clear cc hL
        go_wp2_with fail
        refine wp_region_up (by kernel_rfl) (by kernel_rfl) ?_
        repeat (go_big_quiet_step ((go_at_call 61; exact up_call (CC.out _ (UpT.up _)) (UpT.up _))))
        refine wpQuiet_nil ?_
        rintro _ ⟨⟨w1, u1⟩, rfl⟩
        go_wp2_with fail
        go_roundw
        case rel => exact ⟨n + 1, by omega, by go_num, HN, hu.trans u1⟩
        case measure => simp [intOf]; omega
    · have hpos : posN x (s, ys) = n := posN_eq hn HA.out (fun hq => absurd hq hlt)
      have HQ := Lib.hid (hasN_end hpos hlt)
      have HP := Lib.hid hpos
      have hlb : decide ((n : Int) < (x.length : Int)) = false := by simp; omega
      have q0 := fun t' : UpT wr => cell_up t' g0
      clear hpos
      go_wp2_with fail
      refine wp_region_up (by kernel_rfl) (by kernel_rfl) ?_
      repeat (go_big_quiet_step (fail))
      refine wpQuiet_nil ?_
      rintro w1 ⟨⟨w1', u1⟩, rfl⟩
      have g1 : w1.cell? ⟨w.heap.size, 0, none⟩ = some (.slice A0 x.length c0) := (u1.cell (cell_lt g0)).trans g0
      go_wp2_with fail
      go_ret2
      exact ⟨by rw [HP.out, HQ.out]; first | done | rfl, (uu.trans hu).trans u1⟩
set_option maxHeartbeats 4000000 in
theorem cs_GetNode (v : Value) (x : TTree) (s : ByteArray) (B : Option Addr) (d : Nat) (ys : List ByteArray) (w : World) (h : AV shTree w v x) (hn : shTree.sz x ≤ 1048576) (hs : s.size ≤ maxLen) (hs2 : s.size ≤ 1048576) (k : SRW shS w B d ys) (hy : (shL shS).sz ys ≤ 1048576) :
    Calls Tryz.prog 13 #[v, .string s, .slice B ys.length d] w (RetV (getV x (s, ys)) w) := by
  have hv := h
  obtain ⟨cs, rfl, h⟩ := h
  obtain ⟨A0, c0, rfl, b00⟩ := openTree h
  clear h
  have kb := Bk.new w 32 #[.slice A0 x.length c0]
  have uu : Up w (w.alloc (.cells #[.slice A0 x.length c0] 32)) := (Up.refl w).alloc _
  have ct := fun W (hW : Up w W) => c_specTreeOk _ x W (hv.up good_Tree hW) hn
  have cl := fun W (hW : Up w W) => c_l03Place s ys B d W hs (k.up good_S hW)
  cases ht : treeB x
  · have HE : Hid (getV x (s, ys) = .tuple #[.string ⟨#[]⟩, .bool false]) := by unfold Hid getV; rw [if_neg (by simp [ht])]
    rw [ht] at ct
    have CT := Lib.hid ct
    clear ct cl
    go_enter Tryz.func13, Tryz.ntmps13
    go_wp2_with fail
    refine (CT.out _ uu).mono ?_
    rintro e w1 ⟨rfl, u1⟩
    go_wp2_with fail
    go_ret2
    exact ⟨by rw [HE.out]; first | done | rfl, uu.trans u1⟩
  cases hp : placeB s ys
  · have HE : Hid (getV x (s, ys) = .tuple #[.string ⟨#[]⟩, .bool false]) := by unfold Hid getV; rw [if_neg (by simp [hp])]
    rw [ht] at ct
    rw [hp] at cl
    have CT := Lib.hid ct
    have CL := Lib.hid cl
    clear ct cl
    go_enter Tryz.func13, Tryz.ntmps13
    go_wp2_with fail
    refine (CT.out _ uu).mono ?_
    rintro e w1 ⟨rfl, u1⟩
    go_wp2_with fail
    refine (CL.out _ (uu.trans u1)).mono ?_
    rintro e w2 ⟨rfl, u2⟩
    go_wp2_with fail
    go_ret2
    exact ⟨by rw [HE.out]; first | done | rfl, (uu.trans u1).trans u2⟩
  have cg := fun W (hW : Up w W) => c_l03At x _ s ys B d W (hv.up good_Tree hW) (k.up good_S hW)
  rw [ht] at ct
  rw [hp] at cl
  have CT := Lib.hid ct
  have CL := Lib.hid cl
  cases hb : hasN x (s, ys)
  · have HE : Hid (getV x (s, ys) = .tuple #[.string ⟨#[]⟩, .bool false]) := by unfold Hid getV; rw [if_neg (by simp [hb])]
    rw [hb] at cg
    have CG := Lib.hid cg
    clear ct cl cg ht hp hb
    go_enter Tryz.func13, Tryz.ntmps13
    go_wp2_with fail
    refine (CT.out _ uu).mono ?_
    rintro e w1 ⟨rfl, u1⟩
    have g0 : w1.cell? ⟨w.heap.size, 0, none⟩ = some (.slice A0 x.length c0) := (kb.up u1).cell 0
    go_wp2_with fail
    refine (CL.out _ (uu.trans u1)).mono ?_
    rintro e w2 ⟨rfl, u2⟩
    have g0' : w2.cell? ⟨w.heap.size, 0, none⟩ = some (.slice A0 x.length c0) := ((kb.up u1).up u2).cell 0
    go_wp2_with fail
    refine (CG.out _ ((uu.trans u1).trans u2)).mono ?_
    rintro e w3 ⟨rfl, u3⟩
    go_wp2_with fail
    go_ret2
    exact ⟨by rw [HE.out]; first | done | rfl, ((uu.trans u1).trans u2).trans u3⟩
  · obtain ⟨hlp, hval⟩ := hasN_lt hb
    have HE : Hid (getV x (s, ys) = .tuple #[.string x[posN x (s, ys)].2.2, .bool true]) := by unfold Hid getV; rw [if_pos ⟨ht, hp, hb⟩, hval]
    rw [hb] at cg
    generalize posN x (s, ys) = p at *
    have CG := Lib.hid cg
    clear ct cl cg ht hp hb hval
    go_enter Tryz.func13, Tryz.ntmps13
    go_wp2_with fail
    refine (CT.out _ uu).mono ?_
    rintro e w1 ⟨rfl, u1⟩
    have g0 : w1.cell? ⟨w.heap.size, 0, none⟩ = some (.slice A0 x.length c0) := (kb.up u1).cell 0
    go_wp2_with fail
    refine (CL.out _ (uu.trans u1)).mono ?_
    rintro e w2 ⟨rfl, u2⟩
    have g0' : w2.cell? ⟨w.heap.size, 0, none⟩ = some (.slice A0 x.length c0) := ((kb.up u1).up u2).cell 0
    go_wp2_with fail
    refine (CG.out _ ((uu.trans u1).trans u2)).mono ?_
    rintro e w3 ⟨rfl, u3⟩
    have u123 := ((uu.trans u1).trans u2).trans u3
    obtain ⟨g, off, A2, c2, rfl, _, hgl, hc0, hc1, hc2, b0, b1, b2, _⟩ := atNode (b00.up good_Node u123) hlp
    have g0'' : w3.cell? ⟨w.heap.size, 0, none⟩ = some (.slice (some ⟨g, off, none⟩) x.length c0) := (((kb.up u1).up u2).up u3).cell 0
    go_wp2_with fail
    go_ret2
    exact ⟨by rw [HE.out]; first | done | rfl, u123⟩
end Go.Proofs.YtanjmolgpkffoaaGreatDoor

namespace Go.Proofs.YtanjmolgpkffoaaGreatDoor
open Go.RowKit
set_option linter.unusedVariables false
set_option linter.unusedSimpArgs false

section
variable {α : Type} {s : Sh α} {w w' : World} {lo hi lo' hi' : Nat} {news olds : List Value} {xs ys : List α} {bs bls : List (List Nat)}
theorem Rowed.nil : Rowed s w lo hi [] ([] : List α) [] := ⟨rfl, by simp, fun i h => absurd h (by simp)⟩
theorem Rowed.append {n1 n2 : List Value} {y1 y2 : List α} {b1 b2 : List (List Nat)} (h1 : Rowed s w lo hi n1 y1 b1) (h2 : Rowed s w lo hi n2 y2 b2) : Rowed s w lo hi (n1 ++ n2) (y1 ++ y2) (b1 ++ b2) := by
  obtain ⟨l1, m1, e1⟩ := h1
  obtain ⟨l2, m2, e2⟩ := h2
  refine ⟨by simp [l1, l2], by simp [m1, m2, Nat.add_mul], fun i hi => ?_⟩
  by_cases hk : i < y1.length
  · obtain ⟨cs, b, a1, a2, a3, a4⟩ := e1 i hk
    refine ⟨cs, b, by rw [List.getElem?_append_left (by omega)]; exact a1, a2, fun j hj => ?_, by rw [List.getElem_append_left hk]; exact a4⟩
    have := Nat.mul_le_mul_right s.size (Nat.succ_le_of_lt hk)
    rw [Nat.succ_mul] at this
    rw [List.getElem?_append_left (by omega)]
    exact a3 j hj
  · have hk' : i - y1.length < y2.length := by simp at hi; omega
    obtain ⟨cs, b, a1, a2, a3, a4⟩ := e2 _ hk'
    refine ⟨cs, b, by rw [List.getElem?_append_right (by omega), l1]; exact a1, a2, fun j hj => ?_, by rw [List.getElem_append_right (by omega)]; exact a4⟩
    have hks : i * s.size = y1.length * s.size + (i - y1.length) * s.size := by rw [← Nat.add_mul]; congr 1; omega
    rw [List.getElem?_append_right (by omega), m1, show i * s.size + j - y1.length * s.size = (i - y1.length) * s.size + j by omega]
    exact a3 j hj
theorem Rowed.take (h : Rowed s w lo hi news ys bs) {k : Nat} (hk : k ≤ ys.length) : Rowed s w lo hi (news.take (k * s.size)) (ys.take k) (bs.take k) := by
  obtain ⟨l, m, e⟩ := h
  have hm := Nat.mul_le_mul_right s.size hk
  refine ⟨by simp [l], by rw [List.length_take, m, List.length_take, Nat.min_eq_left hk]; omega, fun i hi => ?_⟩
  have hi' : i < k ∧ i < ys.length := by rw [List.length_take] at hi; omega
  obtain ⟨cs, b, a1, a2, a3, a4⟩ := e i hi'.2
  refine ⟨cs, b, by rw [List.getElem?_take_of_lt hi'.1]; exact a1, a2, fun j hj => ?_, by simpa using a4⟩
  have := Nat.mul_le_mul_right s.size (Nat.succ_le_of_lt hi'.1)
  rw [Nat.succ_mul] at this
  rw [List.getElem?_take_of_lt (by omega)]
  exact a3 j hj
theorem Rowed.drop (h : Rowed s w lo hi news ys bs) (k : Nat) : Rowed s w lo hi (news.drop (k * s.size)) (ys.drop k) (bs.drop k) := by
  obtain ⟨l, m, e⟩ := h
  refine ⟨by simp [l], by simp [m, Nat.sub_mul], fun i hi => ?_⟩
  have hi' : k + i < ys.length := by simp at hi; omega
  obtain ⟨cs, b, a1, a2, a3, a4⟩ := e (k + i) hi'
  refine ⟨cs, b, by rw [List.getElem?_drop]; exact a1, a2, fun j hj => ?_, by simpa using a4⟩
  rw [List.getElem?_drop, ← a3 j hj, Nat.add_mul]
  congr 1
  omega
theorem Rowed.keep (hg : Good s) (h : Rowed s w lo hi news ys bs) (k : ∀ y ∈ bs.flatten, w'.heap[y]? = w.heap[y]?) : Rowed s w' lo hi news ys bs := by
  refine ⟨h.1, h.2.1, fun i hi => ?_⟩
  obtain ⟨cs, b, a1, a2, a3, a4⟩ := h.2.2 i hi
  exact ⟨cs, b, a1, a2, a3, hg.own_keep a4 fun y hy => k y (List.mem_flatten.2 ⟨b, List.mem_of_getElem? a1, hy⟩)⟩
theorem Rowed.wide (hg : Good s) (h : Rowed s w lo hi news ys bs) (k : lo' ≤ lo) (l : hi ≤ hi') : Rowed s w lo' hi' news ys bs := by
  refine ⟨h.1, h.2.1, fun i hi => ?_⟩
  obtain ⟨cs, b, a1, a2, a3, a4⟩ := h.2.2 i hi
  exact ⟨cs, b, a1, a2, a3, hg.own_wide a4 k l⟩
theorem Rowed.in_ (hg : Good s) (h : Rowed s w lo hi news ys bs) : ∀ y ∈ bs.flatten, lo ≤ y ∧ y < hi := fun y hy => by
  obtain ⟨l, hl, hyl⟩ := List.mem_flatten.1 hy
  obtain ⟨q, hq, rfl⟩ := List.getElem_of_mem hl
  obtain ⟨cs, b, e1, _, _, e4⟩ := h.2.2 q (by rw [← h.1]; exact hq)
  rw [List.getElem?_eq_getElem hq] at e1
  injection e1 with e1
  subst e1
  exact hg.own_in e4 y hyl
/-- An owned slice, opened into its cells. -/
theorem SO.row {A : Option Addr} {c : Nat} {bl : List Nat} (h : SO s w lo hi A c xs bl) : (xs = [] ∧ bl = [] ∧ c = 0) ∨ ∃ (g off : Nat) (C : Array Value) (tid : TypeId) (bls : List (List Nat)) (olds : List Value), A = some ⟨g, off, none⟩ ∧ lo ≤ g ∧ g < hi ∧ Bk w g tid C ∧ off + c * s.size ≤ C.size ∧ bl = g :: bls.flatten ∧
    Rowed s w lo hi olds xs bls ∧ ∀ j, j < olds.length → C[off + j]? = olds[j]? := by
  rcases h.2.2 with h0 | ⟨g, off, C, tid, bls, rfl, h1, h2, hh, hcap, rfl, hbl, h3⟩
  · exact .inl h0
  · refine .inr ⟨g, off, C, tid, bls, (C.toList.drop off).take (xs.length * s.size), rfl, h1, h2, hh, hcap, rfl, ⟨hbl, ?_, fun k hk => ?_⟩, fun j hj => ?_⟩
    · have := Nat.le_trans (Nat.add_le_add_left (Nat.mul_le_mul_right s.size h.1) off) hcap
      simp
      omega
    · obtain ⟨cs, b, e1, e2, e3, e4⟩ := h3 k hk
      refine ⟨cs, b, e1, e2, fun j hj => ?_, e4⟩
      have := Nat.mul_le_mul_right s.size (Nat.succ_le_of_lt hk)
      rw [Nat.succ_mul] at this
      rw [List.getElem?_take_of_lt (by omega), List.getElem?_drop, ← e3 j hj]
      simp
    · simp at hj
      rw [List.getElem?_take_of_lt (by omega), List.getElem?_drop]
      simp
/-- .. and made of them. -/
theorem SO.of_row {g off c : Nat} {C : Array Value} {tid : TypeId} (h1 : lo ≤ g) (h2 : g < hi) (hb : Bk w g tid C) (hcap : off + c * s.size ≤ C.size) (hl : xs.length ≤ c) (hc : c ≤ maxLen) (hr : Rowed s w lo hi olds xs bls) (ho : ∀ j, j < olds.length → C[off + j]? = olds[j]?) :
    SO s w lo hi (some ⟨g, off, none⟩) c xs (g :: bls.flatten) := by
  refine ⟨hl, hc, .inr ⟨g, off, C, tid, bls, rfl, h1, h2, hb, hcap, rfl, hr.1, fun i hi => ?_⟩⟩
  obtain ⟨cs, b, e1, e2, e3, e4⟩ := hr.2.2 i hi
  refine ⟨cs, b, e1, e2, fun j hj => ?_, e4⟩
  have := Nat.mul_le_mul_right s.size (Nat.succ_le_of_lt hi)
  rw [Nat.succ_mul] at this
  rw [ho _ (by rw [hr.2.1]; omega)]
  exact e3 j hj
end
/-- A slice of an owned one, for reading: its elements from a on, b - a of them. -/
theorem SR.sub {α : Type} {s : Sh α} {w : World} {lo hi g off : Nat} {c : Nat} {xs : List α} (h : SR s w lo hi (some ⟨g, off, none⟩) c xs) {a b d : Nat} (hab : a ≤ b) (hb : b ≤ xs.length) (hd : b - a ≤ d) (hd' : d ≤ maxLen) :
    SR s w lo hi (some ⟨g, off + a * s.size, none⟩) d ((xs.take b).drop a) := by
  refine ⟨by simp; omega, hd', fun hp => ?_⟩
  have hp' : a < b := by simp at hp; omega
  obtain ⟨g', off', hA, h1, h2, h3⟩ := h.2.2 (by omega)
  simp only [Option.some.injEq, Addr.mk.injEq, and_true] at hA
  obtain ⟨rfl, rfl⟩ := hA
  refine ⟨g, off + a * s.size, rfl, h1, h2, fun i hi => ?_⟩
  have hi' : a + i < xs.length := by simp at hi; omega
  obtain ⟨cs, ⟨hc, he⟩, hr⟩ := h3 (a + i) hi'
  refine ⟨cs, ⟨hc, fun j hj => ?_⟩, by simpa using hr⟩
  rw [← he j hj, Nat.add_mul]
  congr 2
  omega
end Go.Proofs.YtanjmolgpkffoaaGreatDoor

namespace Go.Proofs.YtanjmolgpkffoaaGreatDoor
open Go.RowKit
set_option linter.unusedVariables false
set_option linter.unusedSimpArgs false

theorem cinfo_Node : (Tryz.prog.info? 91).map (fun i => (i.zero, i.size, i.bytes)) = some (some (.agg #[.string ⟨#[]⟩, .slice none 0 0, .string ⟨#[]⟩]), 3, 56) := by kernel_rfl
def rowP {α : Type} (s : Sh α) (w : World) (lo : Nat) (xs : List α) (bl b : List Nat) (D : Option Addr) (d : Nat) (bl' : List Nat) (w' : World) : Prop :=
  SO s w' lo w'.heap.size D d xs bl' ∧ bl'.Nodup ∧ (∀ y ∈ bl', y ∈ bl ++ b ∨ w.heap.size ≤ y) ∧ Only bl w w'
/-- What a call leaves that hands back a row made of an owned one (and of what b owns). -/
def RowR {α : Type} (s : Sh α) (w : World) (lo : Nat) (xs : List α) (bl b : List Nat) (e : Ending) (w' : World) : Prop :=
  ∃ D d bl', e = .returned (.slice D xs.length d) ∧ rowP s w lo xs bl b D d bl' w'
theorem RowR.mk {α : Type} {s : Sh α} {w : World} {lo : Nat} {xs : List α} {bl b : List Nat} {w' : World} {D : Option Addr} {d n : Nat} (bl' : List Nat) (hn : xs.length = n) (h : rowP s w lo xs bl b D d bl' w') : RowR s w lo xs bl b (.returned (.slice D n d)) w' := ⟨D, d, bl', by rw [hn], h⟩
theorem ins_nodup {g : Nat} {bls : List (List Nat)} {b : List Nat} (i : Nat) (nd : ((g :: bls.flatten) ++ b).Nodup) : (g :: (bls.take i ++ b :: bls.drop i).flatten).Nodup := by
  have hp : ((g :: bls.flatten) ++ b).Perm (g :: (bls.take i ++ b :: bls.drop i).flatten) := by
    rw [List.cons_append]
    refine List.Perm.cons _ ?_
    rw [List.flatten_append, List.flatten_cons]
    conv => lhs; rw [← List.take_append_drop i bls, List.flatten_append, List.append_assoc]
    exact List.Perm.append_left _ List.perm_append_comm
  exact hp.nodup_iff.1 nd
theorem ins_mem {g : Nat} {bls : List (List Nat)} {b : List Nat} (i : Nat) : ∀ y ∈ (g :: (bls.take i ++ b :: bls.drop i).flatten), y ∈ (g :: bls.flatten) ++ b := by
  intro y hy
  rcases List.mem_cons.1 hy with rfl | hy
  · simp
  · rw [List.flatten_append, List.flatten_cons] at hy
    have e : bls.flatten = (bls.take i).flatten ++ (bls.drop i).flatten := by rw [← List.flatten_append, List.take_append_drop]
    rw [List.cons_append, e]
    simp only [List.mem_append, List.mem_cons] at hy ⊢
    rcases hy with h | h | h <;> simp [h]
theorem run_copy_cellsN {P : Program} (z : Nat) (w : World) (dT sT ty elem : TypeId) (b o dLen dCap : Nat) (a : Addr) (sLen sCap : Nat) (cs : List Value) (n : Nat)
    (hu : P.underlying dT = some (.slice elem)) (hs : (P.info? elem).map (·.size) = some z) (hn : Nat.min sLen dLen = n) (hcl : cs.length = n * z)
    (hsrc : ∀ j v, cs[j]? = some v → w.cell? (a.add j) = some v) (hc : ∀ j, j < cs.length → (w.cell? ⟨b, o + j, none⟩).isSome = true) (hf : ∀ j, j < cs.length → w.frozen? ⟨b, o + j, none⟩ = false) (h1 : ∀ v ∈ cs, v.oneCell' = true) :
    (Builtin.copy_ #[dT, sT] ty #[.slice (some ⟨b, o, none⟩) dLen dCap, .slice (some a) sLen sCap]).run P w = .ok (goInt n) (setCells w b o cs) := by
  have hl := run_loadCells_list (P := P) w a cs hsrc
  have hst := run_storeCells_cells (P := P) b o cs 0 w (by simpa using hc) (by simpa using hf) h1
  rw [setCells_eq] at hst
  rw [hcl] at hl
  cases hq : P.info? elem with
  | none => simp [hq] at hs
  | some i =>
    have hi : i.size = z := by simpa [hq] using hs
    simp [Builtin.copy_, run_underlying hu, Builtin.lenOf, Builtin.firstCells, sizeOf, typeInfo, hq, hi, hn, hl, hst]
theorem addr_add (g off j : Nat) : (⟨g, off, none⟩ : Addr).add j = ⟨g, off + j, none⟩ := by unfold Addr.add; split <;> simp_all
/-- The cells of a row with one element put in. -/
theorem ins_cells {C C' : Array Value} {off i z n : Nat} {olds cs : List Value} (hol : olds.length = n * z) (hcs : cs.length = z) (hi : i ≤ n) (hC : ∀ j, j < olds.length → C[off + j]? = olds[j]?)
    (h1 : ∀ j, j < i * z → C'[off + j]? = C[off + j]?) (h2 : ∀ j, j < z → C'[off + (i * z + j)]? = cs[j]?) (h3 : ∀ j, j < n * z - i * z → C'[off + ((i + 1) * z + j)]? = (olds.drop (i * z))[j]?) :
    ∀ j, j < (olds.take (i * z) ++ (cs ++ olds.drop (i * z))).length → C'[off + j]? = (olds.take (i * z) ++ (cs ++ olds.drop (i * z)))[j]? := by
  intro j hj
  have hiz := Nat.mul_le_mul_right z hi
  have htl : (olds.take (i * z)).length = i * z := by rw [List.length_take]; omega
  simp only [List.length_append, htl, hcs, List.length_drop, hol] at hj
  have hs1 : (i + 1) * z = i * z + z := Nat.succ_mul i z
  by_cases ha : j < i * z
  · rw [h1 j ha, hC j (by omega), List.getElem?_append_left (by omega), List.getElem?_take_of_lt ha]
  · rw [List.getElem?_append_right (by omega), htl]
    by_cases hb : j < i * z + z
    · have e := h2 (j - i * z) (by omega)
      rw [show off + (i * z + (j - i * z)) = off + j by omega] at e
      rw [e, List.getElem?_append_left (by omega)]
    · have e := h3 (j - (i + 1) * z) (by omega)
      rw [show off + ((i + 1) * z + (j - (i + 1) * z)) = off + j by omega] at e
      rw [e, List.getElem?_append_right (by omega), hcs]
      congr 1
      omega

section
variable {lo : Nat} {c vb : Nat} {x : TTree} {y : TNode} {bl b : List Nat} {cs : List Value} {w : World} {i : Nat}
set_option maxHeartbeats 4000000 in
set_option maxRecDepth 100000 in
theorem c_Insert_end {A : Option Addr} (hx : x.length ≤ 1000000) (h : SO shNode w lo w.heap.size A c x bl) (nd : (bl ++ b).Nodup) (hv : Bk w vb 91 cs.toArray) (ho : shNode.own w lo w.heap.size cs y b) (hlo : lo ≤ w.heap.size) :
    Calls Tryz.prog 168 #[.slice A x.length c, .int .i64 (x.length : Int), .slice (some ⟨vb, 0, none⟩) 1 1] w (RowR shNode w lo (x ++ [y]) bl b) := by
  obtain ⟨i0, hi0, hz0, hz1, hz2⟩ := info_parts cinfo_Node
  have hcl := good_Node.len (good_Node.own_rep ho)
  have hones := good_Node.one (good_Node.own_rep ho)
  have hxc := h.1
  have hcm := h.2.1
  unfold maxLen at hcm
  have H := Lib.hid h
  have HO := Lib.hid ho
  clear h ho
  have hnd : (bl ++ [b].flatten).Nodup := by simpa using nd
  have hsrc : Src Tryz.prog i0.size 30 (.slice (some ⟨vb, 0, none⟩) 1 1) 1 cs w := Src.box (t := 91) Tryz.underlying30 hv hones (by rw [hz1]; exact hcl)
  have hx1 : (x.length + 1) * i0.bytes ≤ 140737488355328 := by rw [hz2]; omega
  have hx2 : x.length + 1 ≤ maxLen := by unfold maxLen; omega
  cases A with
  | none =>
    go_enter Tryz.func168, Tryz.ntmps168
    go_wp2_with (first
      | (at_builtin
         refine wpList_app good_Node rfl _ _ _ _ 91 rfl i0 _ Tryz.underlying30 hi0 hz0 hz1 (by rfl) (lo := lo) (xs := x) (ys := [y]) (bl := bl) (bs := [b]) (news := cs) rfl rfl H.out hnd hsrc (Rowed.one good_Node HO.out) hlo hx1 hx2 ?_
         intro D' d' bl' w1 hap))
    go_ret
    exact RowR.mk bl' (by simp) ⟨hap.1, hap.2.1, by simpa using hap.2.2.1, hap.2.2.2⟩
  | some ad =>
    obtain ⟨ab, ao, asp⟩ := ad
    go_enter Tryz.func168, Tryz.ntmps168
    go_wp2_with (first
      | (at_builtin
         refine wpList_app good_Node rfl _ _ _ _ 91 rfl i0 _ Tryz.underlying30 hi0 hz0 hz1 (by rfl) (lo := lo) (xs := x) (ys := [y]) (bl := bl) (bs := [b]) (news := cs) rfl rfl H.out hnd hsrc (Rowed.one good_Node HO.out) hlo hx1 hx2 ?_
         intro D' d' bl' w1 hap))
    all_goals (go_ret; exact RowR.mk bl' (by simp) ⟨hap.1, hap.2.1, by simpa using hap.2.2.1, hap.2.2.2⟩)
set_option maxHeartbeats 4000000 in
set_option maxRecDepth 100000 in
theorem c_Insert_shift {A : Option Addr} (hx : x.length ≤ 1000000) (hi : i < x.length) (hroom : x.length + 1 ≤ c) (h : SO shNode w lo w.heap.size A c x bl) (nd : (bl ++ b).Nodup) (hv : Bk w vb 91 cs.toArray) (ho : shNode.own w lo w.heap.size cs y b) (hvb : vb ∉ bl) (hlo : lo ≤ w.heap.size) :
    Calls Tryz.prog 168 #[.slice A x.length c, .int .i64 (i : Int), .slice (some ⟨vb, 0, none⟩) 1 1] w (RowR shNode w lo (x.take i ++ y :: x.drop i) bl b) := by
  have hcm := h.2.1
  unfold maxLen at hcm
  rcases h.row with ⟨rfl, _⟩ | ⟨g, off, C, tid, bls, olds, rfl, hg1, hg2, hbk, hcap, rfl, hro, hCo⟩
  · simp at hi
  have hcl := good_Node.len (good_Node.own_rep ho)
  have hones := good_Node.one (good_Node.own_rep ho)
  have hxc := h.1
  have hsz : shNode.size = 3 := rfl
  have holl : olds.length = x.length * 3 := hro.2.1
  have h1c := hro.ones good_Node
  rw [hsz] at hcap hcl
  have hgv : vb ≠ g := fun e => hvb (by simp [e])
  have hinfo : (Tryz.prog.info? 91).map (·.size) = some 3 := by
    obtain ⟨i0, hi0, hz0, hz1, hz2⟩ := info_parts cinfo_Node
    rw [hi0]; simp [hz1]
  have hu0 : Tryz.prog.underlying 30 = some (.slice 91) := Tryz.underlying30
  have hzof : ∀ W, (Go.sizeOf 91).run Tryz.prog W = .ok 3 W := fun W => by
    obtain ⟨i0, hi0, hz0, hz1, hz2⟩ := info_parts cinfo_Node
    simp [sizeOf, typeInfo, hi0, hz1]
  have hwlt := hbk.lt
  have hov : ∀ lb cb, (callFunc 203 #[.slice (some ⟨vb, 0, none⟩) 1 1, .slice (some ⟨g, off + (i + 1) * 3, none⟩) lb cb]).run Tryz.prog w = .ok (.value (.bool false)) w := fun lb cb => by
    rw [run_callFunc_extern Tryz.func203 (by kernel_rfl) (by kernel_rfl) (by kernel_rfl) (e := Extern.SlicesOverlaps.overlaps #[30, 30] #[4]) (by kernel_rfl),
      Lib.run_overlaps_apart w 30 4 91 hu0 3 hzof ⟨vb, 0, none⟩ ⟨g, off + (i + 1) * 3, none⟩ 1 1 lb cb hgv 91 tid cs.toArray.size C.size (by unfold Bk at hv; simp [World.shape?, hv]) (by unfold Bk at hbk; simp [World.shape?, hbk]) (by omega) (hv.frozen 0) (hv.frozen _)]
    rfl
  have hs3 : (i + 1) * 3 = i * 3 + 3 := by omega
  have hdl : (olds.drop (i * 3)).length = (x.length - i) * 3 := by rw [List.length_drop, holl]; omega
  have hcell : ∀ k, k < C.size → (w.drew.cell? ⟨g, k, none⟩).isSome = true := fun k hk => by
    rw [hbk.drew.cell, Array.getElem?_eq_getElem hk]; rfl
  have hcp1 : ∀ ty dc sc, (Builtin.copy_ #[30, 30] ty #[.slice (some ⟨g, off + (i + 1) * 3, none⟩) (x.length - i) dc, .slice (some ⟨g, off + i * 3, none⟩) (x.length + 1 - i) sc]).run Tryz.prog w.drew = .ok (goInt (x.length - i : Nat)) (setCells w.drew g (off + (i + 1) * 3) (olds.drop (i * 3))) := fun ty dc sc =>
    run_copy_cellsN 3 w.drew _ _ ty 91 g (off + (i + 1) * 3) (x.length - i) dc ⟨g, off + i * 3, none⟩ (x.length + 1 - i) sc (olds.drop (i * 3)) (x.length - i) hu0 hinfo (by simp only [Nat.min_def]; split <;> omega) hdl
      (fun j v hj => by
        rw [List.getElem?_drop] at hj
        have hjl := (List.getElem?_eq_some_iff.1 hj).1
        rw [addr_add, hbk.drew.cell, Nat.add_assoc, hCo _ hjl]
        exact hj)
      (fun j hj => hcell _ (by omega)) (fun j hj => hbk.drew.frozen _) (fun v hv => h1c v (List.mem_of_mem_drop hv))
  have hbk1 := hbk.drew.sets (olds.drop (i * 3)) (off + (i + 1) * 3)
  have hbut1 := But.sets (g := g) (olds.drop (i * 3)) w.drew (off + (i + 1) * 3)
  obtain ⟨W1, hW1⟩ : ∃ W1, W1 = setCells w.drew g (off + (i + 1) * 3) (olds.drop (i * 3)) := ⟨_, rfl⟩
  have hv1 : Bk W1 vb 91 cs.toArray := by rw [hW1]; exact (hbut1.block vb hgv).trans hv
  rw [← hW1] at hbk1 hbut1 hcp1
  obtain ⟨C1, hC1⟩ : ∃ C1, C1 = putCells C (off + (i + 1) * 3) (olds.drop (i * 3)) := ⟨_, rfl⟩
  rw [← hC1] at hbk1
  have hC1s : C1.size = C.size := by rw [hC1, putCells_size]
  have hcp2 : ∀ ty dc, (Builtin.copy_ #[30, 30] ty #[.slice (some ⟨g, off + i * 3, none⟩) (x.length + 1 - i) dc, .slice (some ⟨vb, 0, none⟩) 1 1]).run Tryz.prog W1 = .ok (goInt 1) (setCells W1 g (off + i * 3) cs) := fun ty dc =>
    run_copy_cellsN 3 W1 _ _ ty 91 g (off + i * 3) (x.length + 1 - i) dc ⟨vb, 0, none⟩ 1 1 cs 1 hu0 hinfo (by simp only [Nat.min_def]; split <;> omega) (by omega)
      (fun j v hj => by rw [addr_add, hv1.cell, Nat.zero_add]; simpa using hj)
      (fun j hj => by rw [hbk1.cell, Array.getElem?_eq_getElem (by omega)]; rfl) (fun j hj => hbk1.frozen _) hones
  have hbk2 := hbk1.sets cs (off + i * 3)
  have hbut2 := hbut1.trans (But.sets (g := g) cs W1 (off + i * 3))
  have hfin : Hid (rowP shNode w lo (x.take i ++ y :: x.drop i) (g :: bls.flatten) b (some ⟨g, off, none⟩) c (g :: (bls.take i ++ b :: bls.drop i).flatten) (setCells W1 g (off + i * 3) cs)) := by
    have hnd := List.nodup_append.1 nd
    have hbl : ∀ y ∈ bls.flatten ++ b, y ≠ g := by
      intro y hy e
      subst e
      rcases List.mem_append.1 hy with hy | hy
      · exact (List.nodup_cons.1 hnd.1).1 hy
      · exact hnd.2.2 y (by simp) y hy rfl
    have hro2 : Rowed shNode w lo w.heap.size (olds.take (i * 3) ++ (cs ++ olds.drop (i * 3))) (x.take i ++ ([y] ++ x.drop i)) (bls.take i ++ ([b] ++ bls.drop i)) :=
      (hro.take (Nat.le_of_lt hi)).append ((Rowed.one good_Node ho).append (hro.drop i))
    have hro3 := hro2.keep (w' := setCells W1 g (off + i * 3) cs) good_Node (fun q hq => by
      refine hbut2.block q (hbl q ?_)
      have := ins_mem i q (List.mem_cons_of_mem g hq)
      rcases List.mem_append.1 this with h | h
      · rcases List.mem_cons.1 h with rfl | h
        · have hm := ins_nodup i nd
          exact absurd hq (List.nodup_cons.1 hm).1
        · exact List.mem_append_left _ h
      · exact List.mem_append_right _ h)
    have hsz2 : (setCells W1 g (off + i * 3) cs).heap.size = w.heap.size := hbut2.size
    refine ⟨?_, ins_nodup i nd, fun q hq => .inl (ins_mem i q hq), ?_⟩
    · rw [hsz2]
      refine SO.of_row (C := putCells C1 (off + i * 3) cs) hg1 hg2 hbk2 (by rw [hsz, putCells_size, hC1s]; exact hcap) (by simp; omega) h.2.1 hro3 ?_
      refine ins_cells (i := i) (z := 3) (n := x.length) holl hcl (Nat.le_of_lt hi) hCo ?_ ?_ ?_
      · intro j hj
        rw [putCells_far _ _ _ _ (.inl (by omega)), hC1, putCells_far _ _ _ _ (.inl (by omega))]
      · intro j hj
        rw [← Nat.add_assoc]
        exact putCells_at cs C1 (off + i * 3) j (by omega) (by omega)
      · intro j hj
        rw [putCells_far _ _ _ _ (.inr (by omega)), hC1, ← Nat.add_assoc]
        exact putCells_at _ C (off + (i + 1) * 3) j (by omega) (by omega)
    · exact (Only.refl _ w).but (show But g w _ from ⟨hbut2.os, hbut2.tape, hbut2.output, hbut2.size, hbut2.block⟩) (by simp)
  have hyl : (x.take i ++ y :: x.drop i).length = x.length + 1 := by simp; omega
  have HOV := Lib.hid hov
  clear hov hbut1 hbut2 hbk1 hbk2 hv1 hro h1c nd ho hv hvb hbk hcell hCo hC1 hC1s hs3 hW1
  have hz2 : ¬ ((i : Int) = (x.length : Int)) := by omega
  have hw1 : IntKind.i64.wrap ((i : Int) + 1) = (i : Int) + 1 := by rw [IntKind.wrap_i64]; omega
  have hb1 : (0 : Int) ≤ (i : Int) + 1 := by omega
  have htn : ((i : Int) + 1).toNat = i + 1 := by omega
  have hb2 : ¬ (c = i + 1) := by omega
  have hb3 : (i : Int) ≤ (x.length : Int) + 1 := by omega
  have hb4 : ¬ (c = i) := by omega
  have hin : i ≤ x.length := by omega
  have mixed : Tryz.prog.follows .mixedOrders = true := by kernel_rfl
  go_enter Tryz.func168, Tryz.ntmps168
  go_wp2_with (simp only [HOV.out])
  go_region_law_o (refine step_copy_runI rfl _ _ 30 30 rfl _ _ (by simp [Act.eval, Act.put]) (by simp [Act.eval, Act.put]) (hcp1 _ _ _) ?_)
  go_wp2_with (at_builtin; refine wpList_copy_runI _ rfl _ _ 30 30 rfl _ _ rfl rfl (hcp2 _ _) ?_)
  go_ret
  exact RowR.mk _ hyl hfin.out
set_option maxHeartbeats 4000000 in
set_option maxRecDepth 100000 in
theorem c_Insert_grow {A : Option Addr} (hx : x.length ≤ 1000000) (hi : i < x.length) (hroom : c < x.length + 1) (h : SO shNode w lo w.heap.size A c x bl) (nd : (bl ++ b).Nodup) (hv : Bk w vb 91 cs.toArray) (ho : shNode.own w lo w.heap.size cs y b) (hlo : lo ≤ w.heap.size) :
    Calls Tryz.prog 168 #[.slice A x.length c, .int .i64 (i : Int), .slice (some ⟨vb, 0, none⟩) 1 1] w (RowR shNode w lo (x.take i ++ y :: x.drop i) bl b) := by
  obtain ⟨i0, hi0, hz0, hz1, hz2⟩ := info_parts cinfo_Node
  have hcm := h.2.1
  unfold maxLen at hcm
  rcases h.row with ⟨rfl, _⟩ | ⟨g, off, C, tid, bls, olds, rfl, hg1, hg2, hbk, hcap, rfl, hro, hCo⟩
  · simp at hi
  have hcl := good_Node.len (good_Node.own_rep ho)
  have hones := good_Node.one (good_Node.own_rep ho)
  have hxc := h.1
  have hsz : shNode.size = 3 := rfl
  have holl : olds.length = x.length * 3 := hro.2.1
  have h1c := hro.ones good_Node
  rw [hsz] at hcap hcl
  have hinfo : (Tryz.prog.info? 91).map (·.size) = some 3 := by rw [hi0]; simp [hz1]
  have hu0 : Tryz.prog.underlying 30 = some (.slice 91) := Tryz.underlying30
  have hwlt := hbk.lt
  have hvlt := hv.lt
  have hin : i ≤ x.length := by omega
  have hkk : (x.length : Int) + 1 - (i : Int) = ((x.length + 1 - i : Nat) : Int) := by omega
  have hik : i + (x.length + 1 - i) = x.length + 1 := by omega
  have htl : (olds.take (i * 3)).length = i * 3 := by rw [List.length_take]; omega
  have hdl : (olds.drop (i * 3)).length = (x.length - i) * 3 := by rw [List.length_drop, holl]; omega
  have hold : (Builtin.firstCells i0.size i (.slice (some ⟨g, off, none⟩) i c)).run Tryz.prog w.drew = .ok (olds.take (i * 3)).toArray w.drew := by
    rw [hz1]
    exact run_firstCells_some (P := Tryz.prog) w.drew 3 i ⟨g, off, none⟩ i c (olds.take (i * 3)) htl (fun j v hj => by
      rw [addr_add, hbk.drew.cell]
      have hjl := (List.getElem?_eq_some_iff.1 hj).1
      rw [htl] at hjl
      rw [List.getElem?_take_of_lt hjl] at hj
      rw [hCo j (by omega)]
      exact hj)
  have hge := grownCap_ge w (x.length + 1) c 91
  have hcmx : grownCap w (x.length + 1) c 91 ≤ maxLen := grownCap_le_maxLen w (x.length + 1) c _ (by unfold maxLen; omega)
  have hrz : ∀ ty, (Builtin.append_ #[30, 3] ty #[.slice (some ⟨g, off, none⟩) i c, .int .i64 ((x.length : Int) + 1 - (i : Int))]).run Tryz.prog w =
      .ok (.slice (some ⟨w.heap.size, 0, none⟩) (x.length + 1) (grownCap w (x.length + 1) c 91)) (w.drew.alloc (.cells ((olds.take (i * 3)).toArray ++ Builtin.zeroCells (Value.agg #[.string ⟨#[]⟩, .slice none 0 0, .string ⟨#[]⟩]).cells (x.length + 1 - i) ++ Builtin.zeroCells (Value.agg #[.string ⟨#[]⟩, .slice none 0 0, .string ⟨#[]⟩]).cells (grownCap w (x.length + 1) c 91 - (x.length + 1))) 91)) := fun ty => by
    have h := Lib.run_append_grow_zeros (P := Tryz.prog) w 30 3 ty 91 i0 _ .i64 .i64 hu0 Tryz.underlying3 hi0 hz0 (some ⟨g, off, none⟩) i c (olds.take (i * 3)) hold (x.length + 1 - i) (by omega) (by omega) (by omega) (by omega) (by rw [hz2]; omega) (by rw [hz2, hik]; exact growslice_fits (by omega) (by omega))
    rw [hik] at h
    rw [hkk]
    exact h
  obtain ⟨G, hG⟩ : ∃ G, G = grownCap w (x.length + 1) c 91 := ⟨_, rfl⟩
  obtain ⟨ROW, hROW⟩ : ∃ ROW : Array Value, ROW = (olds.take (i * 3)).toArray ++ Builtin.zeroCells (Value.agg #[.string ⟨#[]⟩, .slice none 0 0, .string ⟨#[]⟩]).cells (x.length + 1 - i) ++ Builtin.zeroCells (Value.agg #[.string ⟨#[]⟩, .slice none 0 0, .string ⟨#[]⟩]).cells (G - (x.length + 1)) := ⟨_, rfl⟩
  rw [← hG] at hrz hge hcmx
  rw [← hROW] at hrz
  have hRs : ROW.size = G * 3 := by
    rw [hROW]
    simp only [Array.size_append, size_zeroCells, List.size_toArray, htl]
    have : (Value.agg #[.string ⟨#[]⟩, .slice none 0 0, .string ⟨#[]⟩]).cells.size = 3 := rfl
    rw [this]
    omega
  have hR0 : ∀ j, j < i * 3 → ROW[j]? = olds[j]? := fun j hj => by
    rw [hROW, Array.append_assoc, Array.getElem?_append_left (by simp [htl]; exact hj)]
    simp only [List.getElem?_toArray]
    exact List.getElem?_take_of_lt hj
  obtain ⟨W1, hW1⟩ : ∃ W1, W1 = w.drew.alloc (.cells ROW 91) := ⟨_, rfl⟩
  have u1 : Up w W1 := by rw [hW1]; exact (Up.refl w).drew.alloc _
  have k1 : Bk W1 w.heap.size 91 ROW := by rw [hW1]; exact Bk.new w.drew _ _
  rw [← hW1] at hrz
  clear hW1 hROW
  have hv1 := hv.up u1
  have hbk1 := hbk.up u1
  have hG1 : x.length + 1 ≤ G := hge
  have hcpA : ∀ ty dc, (Builtin.copy_ #[30, 30] ty #[.slice (some ⟨w.heap.size, i * 3, none⟩) (x.length + 1 - i) dc, .slice (some ⟨vb, 0, none⟩) 1 1]).run Tryz.prog W1 = .ok (goInt 1) (setCells W1 w.heap.size (i * 3) cs) := fun ty dc =>
    run_copy_cellsN 3 W1 _ _ ty 91 w.heap.size (i * 3) (x.length + 1 - i) dc ⟨vb, 0, none⟩ 1 1 cs 1 hu0 hinfo (by simp only [Nat.min_def]; split <;> omega) (by omega)
      (fun j v hj => by rw [addr_add, hv1.cell, Nat.zero_add]; simpa using hj)
      (fun j hj => by rw [k1.cell, Array.getElem?_eq_getElem (by omega)]; rfl) (fun j hj => k1.frozen _) hones
  have k2 := k1.sets cs (i * 3)
  have hbut2 := But.sets (g := w.heap.size) cs W1 (i * 3)
  obtain ⟨W2, hW2⟩ : ∃ W2, W2 = setCells W1 w.heap.size (i * 3) cs := ⟨_, rfl⟩
  rw [← hW2] at hcpA k2 hbut2
  clear hW2
  have u2 := u1.but hbut2 (Nat.le_refl _)
  have hbk2 : Bk W2.drew g tid C := hbk.up u2.drew
  have hC2s : (putCells ROW (i * 3) cs).size = G * 3 := by rw [putCells_size, hRs]
  have hcpB : ∀ ty dc sc, (Builtin.copy_ #[30, 30] ty #[.slice (some ⟨w.heap.size, (i + 1) * 3, none⟩) (x.length - i) dc, .slice (some ⟨g, off + i * 3, none⟩) (x.length - i) sc]).run Tryz.prog W2.drew = .ok (goInt (x.length - i : Nat)) (setCells W2.drew w.heap.size ((i + 1) * 3) (olds.drop (i * 3))) := fun ty dc sc =>
    run_copy_cellsN 3 W2.drew _ _ ty 91 w.heap.size ((i + 1) * 3) (x.length - i) dc ⟨g, off + i * 3, none⟩ (x.length - i) sc (olds.drop (i * 3)) (x.length - i) hu0 hinfo (by simp) hdl
      (fun j v hj => by
        rw [List.getElem?_drop] at hj
        have hjl := (List.getElem?_eq_some_iff.1 hj).1
        rw [addr_add, hbk2.cell, Nat.add_assoc, hCo _ hjl]
        exact hj)
      (fun j hj => by rw [k2.drew.cell, Array.getElem?_eq_getElem (by omega)]; rfl) (fun j hj => k2.drew.frozen _) (fun v hv => h1c v (List.mem_of_mem_drop hv))
  have k3 := k2.drew.sets (olds.drop (i * 3)) ((i + 1) * 3)
  have hbut3 := But.sets (g := w.heap.size) (olds.drop (i * 3)) W2.drew ((i + 1) * 3)
  obtain ⟨W3, hW3⟩ : ∃ W3, W3 = setCells W2.drew w.heap.size ((i + 1) * 3) (olds.drop (i * 3)) := ⟨_, rfl⟩
  rw [← hW3] at hcpB k3 hbut3
  clear hW3
  have u3 : Up w W3 := u2.drew.but hbut3 (Nat.le_refl _)
  have hfin : Hid (rowP shNode w lo (x.take i ++ y :: x.drop i) (g :: bls.flatten) b (some ⟨w.heap.size, 0, none⟩) G (w.heap.size :: (bls.take i ++ b :: bls.drop i).flatten) W3) := by
    have hnd := List.nodup_append.1 nd
    have hro2 : Rowed shNode w lo w.heap.size (olds.take (i * 3) ++ (cs ++ olds.drop (i * 3))) (x.take i ++ ([y] ++ x.drop i)) (bls.take i ++ ([b] ++ bls.drop i)) :=
      (hro.take (Nat.le_of_lt hi)).append ((Rowed.one good_Node ho).append (hro.drop i))
    have hin2 := hro2.in_ good_Node
    have hro3 := (hro2.keep (w' := W3) good_Node (fun q hq => u3.block q (hin2 q hq).2)).wide good_Node (Nat.le_refl _) u3.size
    have hnd2 : (w.heap.size :: (bls.take i ++ b :: bls.drop i).flatten).Nodup := List.nodup_cons.2 ⟨fun hm => by
      have := (hin2 _ hm).2
      omega, (List.nodup_cons.1 (ins_nodup i nd)).2⟩
    refine ⟨?_, hnd2, fun q hq => ?_, Only.of_up u3⟩
    · refine SO.of_row (off := 0) (C := putCells (putCells ROW (i * 3) cs) ((i + 1) * 3) (olds.drop (i * 3))) hlo k3.lt k3 (by rw [hsz, putCells_size, hC2s]; omega) (by simp; omega) hcmx hro3 ?_
      intro j hj
      rw [Nat.zero_add]
      simp only [List.length_append, htl, hcl, hdl, List.append_eq] at hj
      by_cases ha : j < i * 3
      · rw [putCells_far _ _ _ _ (.inl (by omega)), putCells_far _ _ _ _ (.inl (by omega)), hR0 j ha]
        exact (by rw [List.getElem?_append_left (by rw [htl]; exact ha), List.getElem?_take_of_lt ha])
      · obtain ⟨q, rfl⟩ : ∃ q, j = i * 3 + q := ⟨j - i * 3, by omega⟩
        have e0 : (olds.take (i * 3) ++ (cs ++ olds.drop (i * 3)))[i * 3 + q]? = (cs ++ olds.drop (i * 3))[q]? := by rw [List.getElem?_append_right (by rw [htl]; omega), htl]; congr 1; omega
        rw [e0]
        by_cases hb : q < 3
        · rw [putCells_far _ _ _ _ (.inl (by omega)), putCells_at cs ROW (i * 3) q (by omega) (by omega), List.getElem?_append_left (by omega)]
        · obtain ⟨r, rfl⟩ : ∃ r, q = 3 + r := ⟨q - 3, by omega⟩
          have e := putCells_at (olds.drop (i * 3)) (putCells ROW (i * 3) cs) ((i + 1) * 3) r (by rw [hC2s]; omega) (by omega)
          rw [show i * 3 + (3 + r) = (i + 1) * 3 + r by omega, e, List.getElem?_append_right (by omega), hcl]
          congr 1
          omega
    · rcases List.mem_cons.1 hq with rfl | hq
      · exact .inr (Nat.le_refl _)
      · exact .inl (ins_mem i q (List.mem_cons_of_mem g hq))
  have hyl : (x.take i ++ y :: x.drop i).length = x.length + 1 := by simp; omega
  clear hbut2 hbut3 hbk hbk1 hbk2 hv hv1 hro h1c nd ho hCo hold k1 k2 k3 u1 u2 u3 hR0 hRs hC2s hG hkk hik
  have hz2 : ¬ ((i : Int) = (x.length : Int)) := by omega
  have hz3 : (c : Int) < (x.length : Int) + 1 := by omega
  have hw1 : IntKind.i64.wrap ((i : Int) + 1) = (i : Int) + 1 := by rw [IntKind.wrap_i64]; omega
  have hb1 : (0 : Int) ≤ (i : Int) + 1 := by omega
  have htn : ((i : Int) + 1).toNat = i + 1 := by omega
  have hb3 : (i : Int) ≤ (x.length : Int) := by omega
  have hci : ¬ (c = i) := by omega
  have hGi : ¬ (G = i) := by omega
  have hGim : ¬ (G = i + 1) := by omega
  unfold maxLen at hcmx
  have mixed : Tryz.prog.follows .mixedOrders = true := by kernel_rfl
  go_enter Tryz.func168, Tryz.ntmps168
  go_wp2_with (first
    | (at_builtin; refine Lib.wpList_append_run _ rfl _ _ _ _ rfl _ _ rfl rfl _ _ (hrz _) ?_)
    | (at_builtin; refine wpList_copy_runI _ rfl _ _ 30 30 rfl _ _ rfl rfl (hcpA _ _) ?_))
  go_region_law_o (refine step_copy_runI rfl _ _ 30 30 rfl _ _ (by simp [Act.eval, Act.put]) (by simp [Act.eval, Act.put]) (hcpB _ _ _) ?_)
  go_wp2_with fail
  go_ret
  exact RowR.mk _ hyl hfin.out
/-- slices.Insert of one node. -/
theorem c_InsertNode {A : Option Addr} (hx : x.length ≤ 1000000) (hi : i ≤ x.length) (h : SO shNode w lo w.heap.size A c x bl) (nd : (bl ++ b).Nodup) (hv : Bk w vb 91 cs.toArray) (ho : shNode.own w lo w.heap.size cs y b) (hvb : vb ∉ bl) (hlo : lo ≤ w.heap.size) :
    Calls Tryz.prog 168 #[.slice A x.length c, .int .i64 (i : Int), .slice (some ⟨vb, 0, none⟩) 1 1] w (RowR shNode w lo (x.take i ++ y :: x.drop i) bl b) := by
  rcases Nat.eq_or_lt_of_le hi with rfl | hi
  · have := c_Insert_end hx h nd hv ho hlo
    simpa using this
  · rcases Nat.lt_or_ge c (x.length + 1) with hc | hc
    · exact c_Insert_grow hx hi hc h nd hv ho hlo
    · exact c_Insert_shift hx hi hc h nd hv ho hvb hlo
end
end Go.Proofs.YtanjmolgpkffoaaGreatDoor

namespace Go.Proofs.YtanjmolgpkffoaaGreatDoor
open Go.RowKit
set_option linter.unusedVariables false
set_option linter.unusedSimpArgs false
theorem cinfo_StringS : (Tryz.prog.info? 9).map (fun i => (i.zero, i.size, i.bytes)) = some (some (.string ⟨#[]⟩), 1, 16) := by kernel_rfl
set_option maxRecDepth 100000 in
set_option maxHeartbeats 1000000 in
theorem c_CloneStringS (xs : List ByteArray) (A : Option Addr) (c : Nat) (w : World) (h : SRW shS w A c xs) (hn : xs.length ≤ 1048576) :
    Calls Tryz.prog 165 #[.slice A xs.length c] w (ToL shS xs w) := by
  obtain ⟨i0, hi0, hz0, hz1, hz2⟩ := info_parts cinfo_StringS
  cases A with
  | none =>
    obtain rfl : xs = [] := by
      rcases Nat.eq_zero_or_pos xs.length with h0 | hp
      · exact List.eq_nil_of_length_eq_zero h0
      · obtain ⟨g, off, hA, _⟩ := h.2.2 hp; cases hA
    have he : ∀ W : World, (binOp .eql 25 (.slice none 0 c) (.slice none 0 0)).run Tryz.prog W = .ok (.bool true) W := fun _ => rfl
    go_enter Tryz.func165, Tryz.ntmps165
    go_wp2_with fail

    go_ret
    exact ⟨none, 0, [], rfl, SO.nil _ _ _, by simp, Up.refl _⟩
  | some ad =>
    have he : ∀ W : World, (binOp .eql 25 (.slice (some ad) xs.length c) (.slice none 0 0)).run Tryz.prog W = .ok (.bool false) W := fun _ => rfl
    go_enter Tryz.func165, Tryz.ntmps165
    go_wp2_with (first
      | (at_builtin
         refine wpList_app_new good_S flat_S rfl _ _ _ 9 rfl i0 _ Tryz.underlying25 hi0 hz0 hz1 (by rfl) rfl rfl (h.up good_S ((Up.refl w).alloc _)) (by rw [hz2]; omega) ?_
         intro D d bl w1 hso hnd hu))
    go_ret
    exact ⟨D, d, bl, rfl, hso.wide good_S (by simp) (Nat.le_refl _), hnd, ((Up.refl w).alloc _).trans hu⟩

end Go.Proofs.YtanjmolgpkffoaaGreatDoor
