/-
  Contracts of functions that compare slices.
  GetNode: both sides' contracts.
  Rows as lists of cells: an owned slice opened into its cells, and made of them. No program is named here.
  slices.Insert of one node, wherever there is room or not.
  Contracts of slices.Clone at flat elements.
-/
import Derived.Test.YtanjmolgpkffoaaGreatDoorRows
import Derived.Test.YtanjmolgpkffoaaGreatDoorM1E
import Derived.Test.YtanjmolgpkffoaaGreatDoorM1A
import Derived.StillTailTactics
import Derived.Test.YtanjmolgpkffoaaGreatDoorM1F
import Derived.BigQuiet
import Derived.Deep.QuietTactic
import Derived.Shelf.Spec.SlicesInsert
import Derived.Lib.AppendZerosOnto
import Derived.Lib.Overlaps
import Derived.OwnWalk
namespace Go.Proofs.YtanjmolgpkffoaaGreatDoor
open Go.RowKit
set_option linter.unusedSimpArgs false
set_option linter.unusedVariables false



set_option maxRecDepth 100000 in
set_option maxHeartbeats 1000000 in
theorem c_l02Same (xs ys : List ByteArray) (A B : Option Addr) (c d : Nat) (w : World) (h : SRW shS w A c xs) (k : SRW shS w B d ys) :
    Calls Tryz.prog 151 #[.slice A xs.length c, .slice B ys.length d] w (EqP (xs = ys) w) := by
  have hlen := h.len_le
  have klen := k.len_le
  by_cases hl : xs.length = ys.length
  · have hb : ((xs.length : Int) != (ys.length : Int)) = false := by simp [hl]
    have HL := Lib.hid hl; clear hl
    go_enter Tryz.func151, Tryz.ntmps151
    go_wp2
    go_loopw [5] (fun i wr => ∃ k : Nat, k ≤ xs.length ∧ i = .int .i64 k ∧ Hid (xs.take k = ys.take k) ∧ Up w wr) (fun i _ => xs.length - (intOf i).toNat)
    case atStart => exact ⟨0, Nat.zero_le _, rfl, rfl, Up.refl _⟩
    case round =>
      obtain ⟨j, hj, rfl, HT, hu⟩ := hrel
      by_cases hlt : j < xs.length
      · have hlt' : j < ys.length := by rw [← HL.out]; exact hlt
        obtain ⟨g, off, rfl, _, _, hc, hb1⟩ := (h.up good_S hu).at_S hlt
        obtain ⟨g', off', rfl, _, _, hc', hb2⟩ := (k.up good_S hu).at_S hlt'
        by_cases he : xs[j] = ys[j]
        · have hx : (xs[j].toList == ys[j].toList) = true := by rw [str_beq]; simp [he]
          have HE := Lib.hid he; clear he
          go_wp2
          go_quiet (fail)
          go_wp2
          go_roundw
          case rel => exact ⟨j + 1, by omega, by go_num, take_snoc_eq HT.out hlt hlt' HE.out, hu.drewN _⟩
          case measure => simp [intOf]; omega
        · have hx : (xs[j].toList == ys[j].toList) = false := by rw [str_beq]; simp [he]
          have HE := Lib.hid (ne_of_at hlt hlt' he); clear he
          go_wp2
          go_quiet (fail)
          go_wp2
          go_ret
          exact EqP.f HE.out (hu.drewN _)
      · have HE := Lib.hid (take_all_eq HT.out (by omega) (by rw [← HL.out]; omega))
        go_wp2
        go_ret
        exact EqP.t HE.out hu
  · have hb : ((xs.length : Int) != (ys.length : Int)) = true := by rw [bne_iff_ne]; omega
    have HE := Lib.hid (ne_of_len hl); clear hl
    go_enter Tryz.func151, Tryz.ntmps151
    go_wp2
    go_ret
    exact EqP.f HE.out (Up.refl _)


end Go.Proofs.YtanjmolgpkffoaaGreatDoor

namespace Go.Proofs.YtanjmolgpkffoaaGreatDoor
open Go.RowKit
set_option linter.unusedVariables false
set_option linter.unusedSimpArgs false

def valN (x : TTree) (l : ByteArray × List ByteArray) : ByteArray := if h : posN x l < x.length then x[posN x l].2.2 else ⟨#[]⟩
def getV (x : TTree) (l : ByteArray × List ByteArray) : Value := if treeB x = true ∧ placeB l.1 l.2 = true ∧ hasN x l = true then .tuple #[.string (valN x l), .bool true] else .tuple #[.string ⟨#[]⟩, .bool false]
theorem c_specSameSubs (xs ys : List ByteArray) (A B : Option Addr) (c d : Nat) (w : World) (h : SRW shS w A c xs) (k : SRW shS w B d ys) :
    Calls Tryz.prog 103 #[.slice A xs.length c, .slice B ys.length d] w (EqP (xs = ys) w) := by
  go_enter Tryz.func103, Tryz.ntmps103
  go_wp2_with fail
  refine (c_l02Same _ _ _ _ _ _ _ h k).mono ?_
  rintro e w1 ⟨b, rfl, hb, u⟩
  go_wp2_with fail
  go_ret
  exact ⟨b, rfl, hb, u⟩
theorem hasN_lt {x : TTree} {l : ByteArray × List ByteArray} (h : hasN x l = true) : ∃ hp : posN x l < x.length, valN x l = x[posN x l].2.2 := by
  unfold hasN at h
  by_cases hp : posN x l < x.length
  · exact ⟨hp, by unfold valN; rw [dif_pos hp]⟩
  · rw [dif_neg hp] at h; cases h
theorem treeP_of {x : TTree} (h : treeB x = true) : TreeP x := of_decide_eq_true h
set_option maxHeartbeats 4000000 in
theorem c_place (x : TTree) (hx : TreeP x) (v : Value) (s : ByteArray) (ys : List ByteArray) (B : Option Addr) (d : Nat) (w : World) (h : AV shTree w v x) (k : SRW shS w B d ys) (hs : s.size ≤ maxLen) (st : Small ys) (htab : Tab w) :
    Calls Tryz.prog 108 #[v, .string s, .slice B ys.length d] w (RetV (.tuple #[.int .i64 (posN x (s, ys)), .bool (hasN x (s, ys))]) w) := by
  obtain ⟨cs, rfl, h⟩ := h
  obtain ⟨A0, c0, rfl, b00⟩ := openTree h
  clear h
  have sx := treeP_small hx
  have uu : Up w (w.alloc (.cells #[.slice A0 x.length c0] 32)) := (Up.refl w).alloc _
  have cb := fun W (hW : Up w W) => c_BinarySearch x hx sx A0 c0 (s, ys, ⟨#[]⟩) B d W (b00.up good_Node hW) (k.up good_S hW) hs (show (ByteArray.mk #[]).size ≤ maxLen by unfold maxLen; decide) st (tab_up htab hW)
  have CB := Lib.hid cb
  clear cb hx sx st
  simp only [locOf] at CB
  generalize posN x (s, ys) = p at *
  generalize hasN x (s, ys) = b at *
  go_enter Tryz.func108, Tryz.ntmps108
  go_wp2_with fail
  refine (CB.out _ uu).mono ?_
  rintro e w1 ⟨rfl, u1⟩
  go_wp2_with fail
  go_ret2
  exact ⟨rfl, uu.trans u1⟩
set_option maxHeartbeats 4000000 in
theorem c_get (x : TTree) (hx : TreeP x) (v : Value) (s : ByteArray) (ys : List ByteArray) (B : Option Addr) (d : Nat) (w : World) (h : AV shTree w v x) (k : SRW shS w B d ys) (hs : s.size ≤ maxLen) (st : Small ys) (htab : Tab w) :
    Calls Tryz.prog 58 #[v, .string s, .slice B ys.length d] w (RetV (if hasN x (s, ys) = true then .tuple #[.string (valN x (s, ys)), .bool true] else .tuple #[.string ⟨#[]⟩, .bool false]) w) := by
  have hv := h
  obtain ⟨cs, rfl, h⟩ := h
  obtain ⟨A0, c0, rfl, b00⟩ := openTree h
  clear h
  have kb := Bk.new w 32 #[.slice A0 x.length c0]
  have uu : Up w (w.alloc (.cells #[.slice A0 x.length c0] 32)) := (Up.refl w).alloc _
  have cp := fun W (hW : Up w W) => c_place x hx _ s ys B d W (hv.up good_Tree hW) (k.up good_S hW) hs st (tab_up htab hW)
  cases hb : hasN x (s, ys)
  · rw [hb] at cp
    have CP := Lib.hid cp
    clear cp hx st hb
    rw [if_neg (by simp)]
    go_enter Tryz.func58, Tryz.ntmps58
    go_wp2_with fail
    refine (CP.out _ uu).mono ?_
    rintro e w1 ⟨rfl, u1⟩
    go_wp2_with fail
    go_ret2
    exact ⟨rfl, uu.trans u1⟩
  · obtain ⟨hp, hval⟩ := hasN_lt hb
    rw [hb] at cp
    have CP := Lib.hid cp
    rw [if_pos rfl, hval]
    clear cp hx st hb hval
    generalize posN x (s, ys) = p at *
    go_enter Tryz.func58, Tryz.ntmps58
    go_wp2_with fail
    refine (CP.out _ uu).mono ?_
    rintro e w1 ⟨rfl, u1⟩
    have g0 : w1.cell? ⟨w.heap.size, 0, none⟩ = some (.slice A0 x.length c0) := (kb.up u1).cell 0
    obtain ⟨g, off, A2, c2, rfl, _, hgl, hc0, hc1, hc2, b0, b1, b2, _⟩ := atNode (b00.up good_Node (uu.trans u1)) hp
    go_wp2_with fail
    go_ret2
    exact ⟨rfl, uu.trans u1⟩
set_option maxHeartbeats 4000000 in
theorem ci_GetNode (v : Value) (x : TTree) (s : ByteArray) (B : Option Addr) (d : Nat) (ys : List ByteArray) (w : World) (h : AV shTree w v x) (hn : shTree.sz x ≤ 1048576) (hs : s.size ≤ maxLen) (hs2 : s.size ≤ 1048576) (k : SRW shS w B d ys) (hy : (shL shS).sz ys ≤ 1048576) (htab : Tab w) :
    Calls Tryz.prog 16 #[v, .string s, .slice B ys.length d] w (RetV (getV x (s, ys)) w) := by
  have st : Small ys := fun i hi => sz_le shS ys hi hy
  have hv := h
  obtain ⟨cs, rfl, h⟩ := h
  obtain ⟨A0, c0, rfl, b00⟩ := openTree h
  clear h
  have kb := Bk.new w 32 #[.slice A0 x.length c0]
  have uu : Up w (w.alloc (.cells #[.slice A0 x.length c0] 32)) := (Up.refl w).alloc _
  have ct := fun W (hW : Up w W) => c_implTreeOk _ x W (hv.up good_Tree hW) hn (tab_up htab hW)
  have cl := fun W (hW : Up w W) => c_locationOk s ys B d W hs (k.up good_S hW)
  cases ht : treeB x
  · have HE : Hid (getV x (s, ys) = .tuple #[.string ⟨#[]⟩, .bool false]) := by unfold Hid getV; rw [if_neg (by simp [ht])]
    rw [ht] at ct
    have CT := Lib.hid ct
    clear ct cl st
    go_enter Tryz.func16, Tryz.ntmps16
    go_wp2_with fail
    refine (CT.out _ uu).mono ?_
    rintro e w1 ⟨rfl, u1⟩
    go_wp2_with fail
    go_ret2
    exact ⟨by rw [HE.out]; first | done | rfl, uu.trans u1⟩
  cases hp : placeB s ys
  · have HE : Hid (getV x (s, ys) = .tuple #[.string ⟨#[]⟩, .bool false]) := by unfold Hid getV; rw [if_neg (by simp [hp])]
    rw [ht] at ct
    rw [hp] at cl
    have CT := Lib.hid ct
    have CL := Lib.hid cl
    clear ct cl st
    go_enter Tryz.func16, Tryz.ntmps16
    go_wp2_with fail
    refine (CT.out _ uu).mono ?_
    rintro e w1 ⟨rfl, u1⟩
    go_wp2_with fail
    refine (CL.out _ (uu.trans u1)).mono ?_
    rintro e w2 ⟨rfl, u2⟩
    go_wp2_with fail
    go_ret2
    exact ⟨by rw [HE.out]; first | done | rfl, (uu.trans u1).trans u2⟩
  · have hge : getV x (s, ys) = if hasN x (s, ys) = true then .tuple #[.string (valN x (s, ys)), .bool true] else .tuple #[.string ⟨#[]⟩, .bool false] := by
      unfold getV
      simp only [ht, hp, true_and]
    have cg := fun W (hW : Up w W) => c_get x (treeP_of ht) _ s ys B d W (hv.up good_Tree hW) (k.up good_S hW) hs st (tab_up htab hW)
    rw [hge]
    rw [ht] at ct
    rw [hp] at cl
    have CT := Lib.hid ct
    have CL := Lib.hid cl
    have hsp : ∃ (a : ByteArray) (b : Bool), (if hasN x (s, ys) = true then Value.tuple #[.string (valN x (s, ys)), .bool true] else .tuple #[.string ⟨#[]⟩, .bool false]) = .tuple #[.string a, .bool b] := by
      split
      · exact ⟨_, _, rfl⟩
      · exact ⟨_, _, rfl⟩
    obtain ⟨a, b, hab⟩ := hsp
    rw [hab] at cg ⊢
    have CG := Lib.hid cg
    clear ct cl cg st hab hge ht hp
    go_enter Tryz.func16, Tryz.ntmps16
    go_wp2_with fail
    refine (CT.out _ uu).mono ?_
    rintro e w1 ⟨rfl, u1⟩
    have g0 : w1.cell? ⟨w.heap.size, 0, none⟩ = some (.slice A0 x.length c0) := (kb.up u1).cell 0
    go_wp2_with fail
    refine (CL.out _ (uu.trans u1)).mono ?_
    rintro e w2 ⟨rfl, u2⟩
    have g0' : w2.cell? ⟨w.heap.size, 0, none⟩ = some (.slice A0 x.length c0) := ((kb.up u1).up u2).cell 0
    go_wp2_with fail
    refine (CG.out _ ((uu.trans u1).trans u2)).mono ?_
    rintro e w3 ⟨rfl, u3⟩
    go_wp2_with fail
    go_ret2
    exact ⟨rfl, ((uu.trans u1).trans u2).trans u3⟩
theorem hasN_at {x : TTree} {l : ByteArray × List ByteArray} {k : Nat} (hp : posN x l = k) (h : k < x.length) : hasN x l = decide (locOf x[k] = l) := by
  unfold hasN
  rw [dif_pos (by rw [hp]; exact h)]
  simp only [hp]
theorem hasN_end {x : TTree} {l : ByteArray × List ByteArray} {k : Nat} (hp : posN x l = k) (h : ¬ k < x.length) : hasN x l = false := by
  unfold hasN
  rw [dif_neg (by rw [hp]; exact h)]
set_option maxRecDepth 100000 in
set_option maxHeartbeats 8000000 in
theorem c_l03At (x : TTree) (v : Value) (s : ByteArray) (ys : List ByteArray) (B : Option Addr) (d : Nat) (w : World) (h : AV shTree w v x) (k : SRW shS w B d ys) :
    Calls Tryz.prog 54 #[v, .string s, .slice B ys.length d] w (RetV (.tuple #[.int .i64 (posN x (s, ys)), .bool (hasN x (s, ys))]) w) := by
  obtain ⟨cs, rfl, h⟩ := h
  obtain ⟨A0, c0, rfl, b00⟩ := openTree h
  clear h
  have hlen := b00.len_le
  have kb0 := Bk.new w 32 #[.slice A0 x.length c0]
  have uu : Up w (w.alloc (.cells #[.slice A0 x.length c0] 32)) := (Up.refl w).alloc _
  go_enter Tryz.func54, Tryz.ntmps54
  go_wp2_with fail
  go_loopw [8] (fun i wr => ∃ k : Nat, k ≤ x.length ∧ i = .int .i64 k ∧ Hid (∀ a (h : a < x.length), a < k → locLt (locOf x[a]) (s, ys) = true) ∧ Up (w.alloc (.cells #[.slice A0 x.length c0] 32)) wr) (fun i _ => x.length - (intOf i).toNat)
  case atStart => exact ⟨0, Nat.zero_le _, rfl, fun a h ha => absurd ha (by omega), Up.refl _⟩
  case round =>
    obtain ⟨n, hn, rfl, HA, hu⟩ := hrel
    have kb := kb0.up hu
    have g0 : wr.cell? ⟨w.heap.size, 0, none⟩ = some (.slice A0 x.length c0) := kb.cell 0
    by_cases hlt : n < x.length
    · obtain ⟨g, off, A2, c2, rfl, _, hgl, hc0, hc1, hc2, b0, b1, b2, _⟩ := atNode (b00.up good_Node (uu.trans hu)) hlt
      have q0 := fun t' : UpT wr => cell_up t' g0
      have p0 := fun t' : UpT wr => cell_up t' hc0
      have p1 := fun t' : UpT wr => cell_up t' hc1
      have cc := fun W (hW : Up wr W) => c_l03Less x[n].1 s x[n].2.1 ys A2 B c2 d W (SR.up good_S b1 hW) (SR.up good_S k ((uu.trans hu).trans hW))
      cases hL : locLt (locOf x[n]) (s, ys)
      · have hpos : posN x (s, ys) = n := posN_eq hn HA.out (fun hq => hL)
        have hhas := hasN_at hpos hlt
        have HP := Lib.hid hpos
        have HH := Lib.hid hhas
        simp only [locOf] at hL
        rw [hL] at cc
        have CC := Lib.hid cc
        clear cc hL hpos hhas
        go_wp2_with fail
        refine wp_region_up (by kernel_rfl) (by kernel_rfl) ?_
        repeat (go_big_quiet_step ((go_at_call 61; exact up_call (CC.out _ (UpT.up _)) (UpT.up _))))
        refine wpQuiet_nil ?_
        rintro w1 ⟨⟨w1', u1⟩, rfl⟩
        have g1 : w1.cell? ⟨w.heap.size, 0, none⟩ = some (.slice (some ⟨g, off, none⟩) x.length c0) := (u1.cell (cell_lt g0)).trans g0
        have e0 : w1.cell? ⟨g, off + n * 3, none⟩ = some (.string x[n].1) := (u1.cell (cell_lt hc0)).trans hc0
        have e1 : w1.cell? ⟨g, off + n * 3 + 1, none⟩ = some (.slice A2 x[n].2.1.length c2) := (u1.cell (cell_lt hc1)).trans hc1
        by_cases hnm : x[n].1 = s
        · have hbe : (x[n].1.toList == s.toList) = true := by rw [str_beq]; simp [hnm]
          have cs := fun W (hW : Up wr W) => c_specSameSubs x[n].2.1 ys A2 B c2 d W (SR.up good_S b1 hW) (SR.up good_S k ((uu.trans hu).trans hW))
          have CS := Lib.hid cs
          have HNM := Lib.hid hnm
          clear cs hnm
          go_wp2_with fail
          refine (CS.out _ u1).mono ?_
          rintro e w2 ⟨bb, rfl, hbb, u2⟩
          have HQ : Hid (hasN x (s, ys) = bb) := by
            unfold Hid
            rw [HH.out]
            cases bb
            · refine decide_eq_false fun hq => ?_
              have := congrArg Prod.snd hq
              simp only [locOf] at this
              exact absurd (hbb.2 this) (by simp)
            · refine decide_eq_true ?_
              show (x[n].1, x[n].2.1) = (s, ys)
              rw [HNM.out, hbb.1 rfl]
          clear hbb
          go_wp2_with fail
          go_ret2
          exact ⟨by rw [HP.out, HQ.out]; first | done | rfl, ((uu.trans hu).trans u1).trans u2⟩
        · have hbe : (x[n].1.toList == s.toList) = false := by rw [str_beq]; simp [hnm]
          have HQ : Hid (hasN x (s, ys) = false) := by
            unfold Hid
            rw [HH.out]
            exact decide_eq_false fun hq => hnm (congrArg Prod.fst hq)
          clear hnm
          go_wp2_with fail
          go_ret2
          exact ⟨by rw [HP.out, HQ.out]; first | done | rfl, (uu.trans hu).trans u1⟩
      · have HN : Hid (∀ a (h : a < x.length), a < n + 1 → locLt (locOf x[a]) (s, ys) = true) := fun a h ha => by
          by_cases e : a = n
          · subst e; exact hL
          · exact HA.out a h (by omega)
        simp only [locOf] at hL
        rw [hL] at cc
        have CC := Lib.hid cc
        clear cc hL
        go_wp2_with fail
        refine wp_region_up (by kernel_rfl) (by kernel_rfl) ?_
        repeat (go_big_quiet_step ((go_at_call 61; exact up_call (CC.out _ (UpT.up _)) (UpT.up _))))
        refine wpQuiet_nil ?_
        rintro _ ⟨⟨w1, u1⟩, rfl⟩
        go_wp2_with fail
        go_roundw
        case rel => exact ⟨n + 1, by omega, by go_num, HN, hu.trans u1⟩
        case measure => simp [intOf]; omega
    · have hpos : posN x (s, ys) = n := posN_eq hn HA.out (fun hq => absurd hq hlt)
      have HQ := Lib.hid (hasN_end hpos hlt)
      have HP := Lib.hid hpos
      have hlb : decide ((n : Int) < (x.length : Int)) = false := by simp; omega
      have q0 := fun t' : UpT wr => cell_up t' g0
      clear hpos
      go_wp2_with fail
      refine wp_region_up (by kernel_rfl) (by kernel_rfl) ?_
      repeat (go_big_quiet_step (fail))
      refine wpQuiet_nil ?_
      rintro w1 ⟨⟨w1', u1⟩, rfl⟩
      have g1 : w1.cell? ⟨w.heap.size, 0, none⟩ = some (.slice A0 x.length c0) := (u1.cell (cell_lt g0)).trans g0
      go_wp2_with fail
      go_ret2
      exact ⟨by rw [HP.out, HQ.out]; first | done | rfl, (uu.trans hu).trans u1⟩
set_option maxHeartbeats 4000000 in
theorem cs_GetNode (v : Value) (x : TTree) (s : ByteArray) (B : Option Addr) (d : Nat) (ys : List ByteArray) (w : World) (h : AV shTree w v x) (hn : shTree.sz x ≤ 1048576) (hs : s.size ≤ maxLen) (hs2 : s.size ≤ 1048576) (k : SRW shS w B d ys) (hy : (shL shS).sz ys ≤ 1048576) :
    Calls Tryz.prog 13 #[v, .string s, .slice B ys.length d] w (RetV (getV x (s, ys)) w) := by
  have hv := h
  obtain ⟨cs, rfl, h⟩ := h
  obtain ⟨A0, c0, rfl, b00⟩ := openTree h
  clear h
  have kb := Bk.new w 32 #[.slice A0 x.length c0]
  have uu : Up w (w.alloc (.cells #[.slice A0 x.length c0] 32)) := (Up.refl w).alloc _
  have ct := fun W (hW : Up w W) => c_specTreeOk _ x W (hv.up good_Tree hW) hn
  have cl := fun W (hW : Up w W) => c_l03Place s ys B d W hs (k.up good_S hW)
  cases ht : treeB x
  · have HE : Hid (getV x (s, ys) = .tuple #[.string ⟨#[]⟩, .bool false]) := by unfold Hid getV; rw [if_neg (by simp [ht])]
    rw [ht] at ct
    have CT := Lib.hid ct
    clear ct cl
    go_enter Tryz.func13, Tryz.ntmps13
    go_wp2_with fail
    refine (CT.out _ uu).mono ?_
    rintro e w1 ⟨rfl, u1⟩
    go_wp2_with fail
    go_ret2
    exact ⟨by rw [HE.out]; first | done | rfl, uu.trans u1⟩
  cases hp : placeB s ys
  · have HE : Hid (getV x (s, ys) = .tuple #[.string ⟨#[]⟩, .bool false]) := by unfold Hid getV; rw [if_neg (by simp [hp])]
    rw [ht] at ct
    rw [hp] at cl
    have CT := Lib.hid ct
    have CL := Lib.hid cl
    clear ct cl
    go_enter Tryz.func13, Tryz.ntmps13
    go_wp2_with fail
    refine (CT.out _ uu).mono ?_
    rintro e w1 ⟨rfl, u1⟩
    go_wp2_with fail
    refine (CL.out _ (uu.trans u1)).mono ?_
    rintro e w2 ⟨rfl, u2⟩
    go_wp2_with fail
    go_ret2
    exact ⟨by rw [HE.out]; first | done | rfl, (uu.trans u1).trans u2⟩
  have cg := fun W (hW : Up w W) => c_l03At x _ s ys B d W (hv.up good_Tree hW) (k.up good_S hW)
  rw [ht] at ct
  rw [hp] at cl
  have CT := Lib.hid ct
  have CL := Lib.hid cl
  cases hb : hasN x (s, ys)
  · have HE : Hid (getV x (s, ys) = .tuple #[.string ⟨#[]⟩, .bool false]) := by unfold Hid getV; rw [if_neg (by simp [hb])]
    rw [hb] at cg
    have CG := Lib.hid cg
    clear ct cl cg ht hp hb
    go_enter Tryz.func13, Tryz.ntmps13
    go_wp2_with fail
    refine (CT.out _ uu).mono ?_
    rintro e w1 ⟨rfl, u1⟩
    have g0 : w1.cell? ⟨w.heap.size, 0, none⟩ = some (.slice A0 x.length c0) := (kb.up u1).cell 0
    go_wp2_with fail
    refine (CL.out _ (uu.trans u1)).mono ?_
    rintro e w2 ⟨rfl, u2⟩
    have g0' : w2.cell? ⟨w.heap.size, 0, none⟩ = some (.slice A0 x.length c0) := ((kb.up u1).up u2).cell 0
    go_wp2_with fail
    refine (CG.out _ ((uu.trans u1).trans u2)).mono ?_
    rintro e w3 ⟨rfl, u3⟩
    go_wp2_with fail
    go_ret2
    exact ⟨by rw [HE.out]; first | done | rfl, ((uu.trans u1).trans u2).trans u3⟩
  · obtain ⟨hlp, hval⟩ := hasN_lt hb
    have HE : Hid (getV x (s, ys) = .tuple #[.string x[posN x (s, ys)].2.2, .bool true]) := by unfold Hid getV; rw [if_pos ⟨ht, hp, hb⟩, hval]
    rw [hb] at cg
    generalize posN x (s, ys) = p at *
    have CG := Lib.hid cg
    clear ct cl cg ht hp hb hval
    go_enter Tryz.func13, Tryz.ntmps13
    go_wp2_with fail
    refine (CT.out _ uu).mono ?_
    rintro e w1 ⟨rfl, u1⟩
    have g0 : w1.cell? ⟨w.heap.size, 0, none⟩ = some (.slice A0 x.length c0) := (kb.up u1).cell 0
    go_wp2_with fail
    refine (CL.out _ (uu.trans u1)).mono ?_
    rintro e w2 ⟨rfl, u2⟩
    have g0' : w2.cell? ⟨w.heap.size, 0, none⟩ = some (.slice A0 x.length c0) := ((kb.up u1).up u2).cell 0
    go_wp2_with fail
    refine (CG.out _ ((uu.trans u1).trans u2)).mono ?_
    rintro e w3 ⟨rfl, u3⟩
    have u123 := ((uu.trans u1).trans u2).trans u3
    obtain ⟨g, off, A2, c2, rfl, _, hgl, hc0, hc1, hc2, b0, b1, b2, _⟩ := atNode (b00.up good_Node u123) hlp
    have g0'' : w3.cell? ⟨w.heap.size, 0, none⟩ = some (.slice (some ⟨g, off, none⟩) x.length c0) := (((kb.up u1).up u2).up u3).cell 0
    go_wp2_with fail
    go_ret2
    exact ⟨by rw [HE.out]; first | done | rfl, u123⟩
end Go.Proofs.YtanjmolgpkffoaaGreatDoor

namespace Go.Proofs.YtanjmolgpkffoaaGreatDoor
open Go.RowKit
set_option linter.unusedVariables false
set_option linter.unusedSimpArgs false

section
variable {α : Type} {s : Sh α} {w w' : World} {lo hi lo' hi' : Nat} {news olds : List Value} {xs ys : List α} {bs bls : List (List Nat)}
theorem Rowed.nil : Rowed s w lo hi [] ([] : List α) [] := ⟨rfl, by simp, fun i h => absurd h (by simp)⟩
theorem Rowed.append {n1 n2 : List Value} {y1 y2 : List α} {b1 b2 : List (List Nat)} (h1 : Rowed s w lo hi n1 y1 b1) (h2 : Rowed s w lo hi n2 y2 b2) : Rowed s w lo hi (n1 ++ n2) (y1 ++ y2) (b1 ++ b2) := by
  obtain ⟨l1, m1, e1⟩ := h1
  obtain ⟨l2, m2, e2⟩ := h2
  refine ⟨by simp [l1, l2], by simp [m1, m2, Nat.add_mul], fun i hi => ?_⟩
  by_cases hk : i < y1.length
  · obtain ⟨cs, b, a1, a2, a3, a4⟩ := e1 i hk
    refine ⟨cs, b, by rw [List.getElem?_append_left (by omega)]; exact a1, a2, fun j hj => ?_, by rw [List.getElem_append_left hk]; exact a4⟩
    have := Nat.mul_le_mul_right s.size (Nat.succ_le_of_lt hk)
    rw [Nat.succ_mul] at this
    rw [List.getElem?_append_left (by omega)]
    exact a3 j hj
  · have hk' : i - y1.length < y2.length := by simp at hi; omega
    obtain ⟨cs, b, a1, a2, a3, a4⟩ := e2 _ hk'
    refine ⟨cs, b, by rw [List.getElem?_append_right (by omega), l1]; exact a1, a2, fun j hj => ?_, by rw [List.getElem_append_right (by omega)]; exact a4⟩
    have hks : i * s.size = y1.length * s.size + (i - y1.length) * s.size := by rw [← Nat.add_mul]; congr 1; omega
    rw [List.getElem?_append_right (by omega), m1, show i * s.size + j - y1.length * s.size = (i - y1.length) * s.size + j by omega]
    exact a3 j hj
theorem Rowed.take (h : Rowed s w lo hi news ys bs) {k : Nat} (hk : k ≤ ys.length) : Rowed s w lo hi (news.take (k * s.size)) (ys.take k) (bs.take k) := by
  obtain ⟨l, m, e⟩ := h
  have hm := Nat.mul_le_mul_right s.size hk
  refine ⟨by simp [l], by rw [List.length_take, m, List.length_take, Nat.min_eq_left hk]; omega, fun i hi => ?_⟩
  have hi' : i < k ∧ i < ys.length := by rw [List.length_take] at hi; omega
  obtain ⟨cs, b, a1, a2, a3, a4⟩ := e i hi'.2
  refine ⟨cs, b, by rw [List.getElem?_take_of_lt hi'.1]; exact a1, a2, fun j hj => ?_, by simpa using a4⟩
  have := Nat.mul_le_mul_right s.size (Nat.succ_le_of_lt hi'.1)
  rw [Nat.succ_mul] at this
  rw [List.getElem?_take_of_lt (by omega)]
  exact a3 j hj
theorem Rowed.drop (h : Rowed s w lo hi news ys bs) (k : Nat) : Rowed s w lo hi (news.drop (k * s.size)) (ys.drop k) (bs.drop k) := by
  obtain ⟨l, m, e⟩ := h
  refine ⟨by simp [l], by simp [m, Nat.sub_mul], fun i hi => ?_⟩
  have hi' : k + i < ys.length := by simp at hi; omega
  obtain ⟨cs, b, a1, a2, a3, a4⟩ := e (k + i) hi'
  refine ⟨cs, b, by rw [List.getElem?_drop]; exact a1, a2, fun j hj => ?_, by simpa using a4⟩
  rw [List.getElem?_drop, ← a3 j hj, Nat.add_mul]
  congr 1
  omega
theorem Rowed.keep (hg : Good s) (h : Rowed s w lo hi news ys bs) (k : ∀ y ∈ bs.flatten, w'.heap[y]? = w.heap[y]?) : Rowed s w' lo hi news ys bs := by
  refine ⟨h.1, h.2.1, fun i hi => ?_⟩
  obtain ⟨cs, b, a1, a2, a3, a4⟩ := h.2.2 i hi
  exact ⟨cs, b, a1, a2, a3, hg.own_keep a4 fun y hy => k y (List.mem_flatten.2 ⟨b, List.mem_of_getElem? a1, hy⟩)⟩
theorem Rowed.wide (hg : Good s) (h : Rowed s w lo hi news ys bs) (k : lo' ≤ lo) (l : hi ≤ hi') : Rowed s w lo' hi' news ys bs := by
  refine ⟨h.1, h.2.1, fun i hi => ?_⟩
  obtain ⟨cs, b, a1, a2, a3, a4⟩ := h.2.2 i hi
  exact ⟨cs, b, a1, a2, a3, hg.own_wide a4 k l⟩
theorem Rowed.in_ (hg : Good s) (h : Rowed s w lo hi news ys bs) : ∀ y ∈ bs.flatten, lo ≤ y ∧ y < hi := fun y hy => by
  obtain ⟨l, hl, hyl⟩ := List.mem_flatten.1 hy
  obtain ⟨q, hq, rfl⟩ := List.getElem_of_mem hl
  obtain ⟨cs, b, e1, _, _, e4⟩ := h.2.2 q (by rw [← h.1]; exact hq)
  rw [List.getElem?_eq_getElem hq] at e1
  injection e1 with e1
  subst e1
  exact hg.own_in e4 y hyl
/-- An owned slice, opened into its cells. -/
theorem SO.row {A : Option Addr} {c : Nat} {bl : List Nat} (h : SO s w lo hi A c xs bl) : (xs = [] ∧ bl = [] ∧ c = 0) ∨ ∃ (g off : Nat) (C : Array Value) (tid : TypeId) (bls : List (List Nat)) (olds : List Value), A = some ⟨g, off, none⟩ ∧ lo ≤ g ∧ g < hi ∧ Bk w g tid C ∧ off + c * s.size ≤ C.size ∧ bl = g :: bls.flatten ∧
    Rowed s w lo hi olds xs bls ∧ ∀ j, j < olds.length → C[off + j]? = olds[j]? := by
  rcases h.2.2 with h0 | ⟨g, off, C, tid, bls, rfl, h1, h2, hh, hcap, rfl, hbl, h3⟩
  · exact .inl h0
  · refine .inr ⟨g, off, C, tid, bls, (C.toList.drop off).take (xs.length * s.size), rfl, h1, h2, hh, hcap, rfl, ⟨hbl, ?_, fun k hk => ?_⟩, fun j hj => ?_⟩
    · have := Nat.le_trans (Nat.add_le_add_left (Nat.mul_le_mul_right s.size h.1) off) hcap
      simp
      omega
    · obtain ⟨cs, b, e1, e2, e3, e4⟩ := h3 k hk
      refine ⟨cs, b, e1, e2, fun j hj => ?_, e4⟩
      have := Nat.mul_le_mul_right s.size (Nat.succ_le_of_lt hk)
      rw [Nat.succ_mul] at this
      rw [List.getElem?_take_of_lt (by omega), List.getElem?_drop, ← e3 j hj]
      simp
    · simp at hj
      rw [List.getElem?_take_of_lt (by omega), List.getElem?_drop]
      simp
end
end Go.Proofs.YtanjmolgpkffoaaGreatDoor

namespace Go.Proofs.YtanjmolgpkffoaaGreatDoor
open Go.RowKit
set_option linter.unusedVariables false
set_option linter.unusedSimpArgs false

def rowP {α : Type} (s : Sh α) (w : World) (lo : Nat) (xs : List α) (bl b : List Nat) (D : Option Addr) (d : Nat) (bl' : List Nat) (w' : World) : Prop :=
  SO s w' lo w'.heap.size D d xs bl' ∧ bl'.Nodup ∧ (∀ y ∈ bl', y ∈ bl ++ b ∨ w.heap.size ≤ y) ∧ Only bl w w'
/-- What a call leaves that hands back a row made of an owned one (and of what b owns). -/
def RowR {α : Type} (s : Sh α) (w : World) (lo : Nat) (xs : List α) (bl b : List Nat) (e : Ending) (w' : World) : Prop :=
  ∃ D d bl', e = .returned (.slice D xs.length d) ∧ rowP s w lo xs bl b D d bl' w'
theorem RowR.mk {α : Type} {s : Sh α} {w : World} {lo : Nat} {xs : List α} {bl b : List Nat} {w' : World} {D : Option Addr} {d n : Nat} (bl' : List Nat) (hn : xs.length = n) (h : rowP s w lo xs bl b D d bl' w') : RowR s w lo xs bl b (.returned (.slice D n d)) w' := ⟨D, d, bl', by rw [hn], h⟩
section
variable {lo : Nat} {c vb : Nat} {x : TTree} {y : TNode} {bl b : List Nat} {cs : List Value} {w : World} {i : Nat}
end
end Go.Proofs.YtanjmolgpkffoaaGreatDoor

namespace Go.Proofs.YtanjmolgpkffoaaGreatDoor
open Go.RowKit
set_option linter.unusedVariables false
set_option linter.unusedSimpArgs false
end Go.Proofs.YtanjmolgpkffoaaGreatDoor
