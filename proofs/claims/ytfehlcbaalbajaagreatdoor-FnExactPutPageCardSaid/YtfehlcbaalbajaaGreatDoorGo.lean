/-
  GetNode: both sides' contracts.
-/
import Derived.Test.YtfehlcbaalbajaaGreatDoorGn
import Derived.Test.YtfehlcbaalbajaaGreatDoorTp
import Derived.Test.YtfehlcbaalbajaaGreatDoorSl
import Derived.BigQuiet
import Derived.Deep.QuietTactic
namespace Go.Proofs.YtfehlcbaalbajaaGreatDoor
open Go.RowKit
set_option linter.unusedVariables false
set_option linter.unusedSimpArgs false

def valN (x : TTree) (l : ByteArray × List ByteArray) : ByteArray := if h : posN x l < x.length then x[posN x l].2.2 else ⟨#[]⟩
def getV (x : TTree) (l : ByteArray × List ByteArray) : Value := if treeB x = true ∧ placeB l.1 l.2 = true ∧ hasN x l = true then .tuple #[.string (valN x l), .bool true] else .tuple #[.string ⟨#[]⟩, .bool false]
theorem c_specSameSubs (xs ys : List ByteArray) (A B : Option Addr) (c d : Nat) (w : World) (h : SRW shS w A c xs) (k : SRW shS w B d ys) :
    Calls Tryz.prog 220 #[.slice A xs.length c, .slice B ys.length d] w (EqP (xs = ys) w) := by
  go_enter Tryz.func220, Tryz.ntmps220
  go_wp2_with fail
  refine (c_l02Same _ _ _ _ _ _ _ h k).mono ?_
  rintro e w1 ⟨b, rfl, hb, u⟩
  go_wp2_with fail
  go_ret
  exact ⟨b, rfl, hb, u⟩
theorem hasN_lt {x : TTree} {l : ByteArray × List ByteArray} (h : hasN x l = true) : ∃ hp : posN x l < x.length, valN x l = x[posN x l].2.2 := by
  unfold hasN at h
  by_cases hp : posN x l < x.length
  · exact ⟨hp, by unfold valN; rw [dif_pos hp]⟩
  · rw [dif_neg hp] at h; cases h
theorem treeP_of {x : TTree} (h : treeB x = true) : TreeP x := of_decide_eq_true h
set_option maxHeartbeats 4000000 in
theorem c_place (x : TTree) (hx : TreeP x) (v : Value) (s : ByteArray) (ys : List ByteArray) (B : Option Addr) (d : Nat) (w : World) (h : AV shTree w v x) (k : SRW shS w B d ys) (hs : s.size ≤ maxLen) (st : Small ys) (htab : Tab w) :
    Calls Tryz.prog 184 #[v, .string s, .slice B ys.length d] w (RetV (.tuple #[.int .i64 (posN x (s, ys)), .bool (hasN x (s, ys))]) w) := by
  obtain ⟨cs, rfl, h⟩ := h
  obtain ⟨A0, c0, rfl, b00⟩ := openTree h
  clear h
  have sx := treeP_small hx
  have uu : Up w (w.alloc (.cells #[.slice A0 x.length c0] 33)) := (Up.refl w).alloc _
  have cb := fun W (hW : Up w W) => c_BinarySearch x hx sx A0 c0 (s, ys, ⟨#[]⟩) B d W (b00.up good_Node hW) (k.up good_S hW) hs (show (ByteArray.mk #[]).size ≤ maxLen by unfold maxLen; decide) st (tab_up htab hW)
  have CB := Lib.hid cb
  clear cb hx sx st
  simp only [locOf] at CB
  generalize posN x (s, ys) = p at *
  generalize hasN x (s, ys) = b at *
  go_enter Tryz.func184, Tryz.ntmps184
  go_wp2_with fail
  refine (CB.out _ uu).mono ?_
  rintro e w1 ⟨rfl, u1⟩
  go_wp2_with fail
  go_ret2
  exact ⟨rfl, uu.trans u1⟩
theorem hasN_at {x : TTree} {l : ByteArray × List ByteArray} {k : Nat} (hp : posN x l = k) (h : k < x.length) : hasN x l = decide (locOf x[k] = l) := by
  unfold hasN
  rw [dif_pos (by rw [hp]; exact h)]
  simp only [hp]
theorem hasN_end {x : TTree} {l : ByteArray × List ByteArray} {k : Nat} (hp : posN x l = k) (h : ¬ k < x.length) : hasN x l = false := by
  unfold hasN
  rw [dif_neg (by rw [hp]; exact h)]
set_option maxRecDepth 100000 in
set_option maxHeartbeats 8000000 in
theorem c_l03At (x : TTree) (v : Value) (s : ByteArray) (ys : List ByteArray) (B : Option Addr) (d : Nat) (w : World) (h : AV shTree w v x) (k : SRW shS w B d ys) :
    Calls Tryz.prog 198 #[v, .string s, .slice B ys.length d] w (RetV (.tuple #[.int .i64 (posN x (s, ys)), .bool (hasN x (s, ys))]) w) := by
  obtain ⟨cs, rfl, h⟩ := h
  obtain ⟨A0, c0, rfl, b00⟩ := openTree h
  clear h
  have hlen := b00.len_le
  have kb0 := Bk.new w 33 #[.slice A0 x.length c0]
  have uu : Up w (w.alloc (.cells #[.slice A0 x.length c0] 33)) := (Up.refl w).alloc _
  go_enter Tryz.func198, Tryz.ntmps198
  go_wp2_with fail
  go_loopw [8] (fun i wr => ∃ k : Nat, k ≤ x.length ∧ i = .int .i64 k ∧ Hid (∀ a (h : a < x.length), a < k → locLt (locOf x[a]) (s, ys) = true) ∧ Up (w.alloc (.cells #[.slice A0 x.length c0] 33)) wr) (fun i _ => x.length - (intOf i).toNat)
  case atStart => exact ⟨0, Nat.zero_le _, rfl, fun a h ha => absurd ha (by omega), Up.refl _⟩
  case round =>
    obtain ⟨n, hn, rfl, HA, hu⟩ := hrel
    have kb := kb0.up hu
    have g0 : wr.cell? ⟨w.heap.size, 0, none⟩ = some (.slice A0 x.length c0) := kb.cell 0
    by_cases hlt : n < x.length
    · obtain ⟨g, off, A2, c2, rfl, _, hgl, hc0, hc1, hc2, b0, b1, b2, _⟩ := atNode (b00.up good_Node (uu.trans hu)) hlt
      have q0 := fun t' : UpT wr => cell_up t' g0
      have p0 := fun t' : UpT wr => cell_up t' hc0
      have p1 := fun t' : UpT wr => cell_up t' hc1
      have cc := fun W (hW : Up wr W) => c_l03Less x[n].1 s x[n].2.1 ys A2 B c2 d W (SR.up good_S b1 hW) (SR.up good_S k ((uu.trans hu).trans hW))
      cases hL : locLt (locOf x[n]) (s, ys)
      · have hpos : posN x (s, ys) = n := posN_eq hn HA.out (fun hq => hL)
        have hhas := hasN_at hpos hlt
        have HP := Lib.hid hpos
        have HH := Lib.hid hhas
        simp only [locOf] at hL
        rw [hL] at cc
        have CC := Lib.hid cc
        clear cc hL hpos hhas
        go_wp2_with fail
        refine wp_region_up (by kernel_rfl) (by kernel_rfl) ?_
        repeat (go_big_quiet_step ((go_at_call 107; exact up_call (CC.out _ (UpT.up _)) (UpT.up _))))
        refine wpQuiet_nil ?_
        rintro w1 ⟨⟨w1', u1⟩, rfl⟩
        have g1 : w1.cell? ⟨w.heap.size, 0, none⟩ = some (.slice (some ⟨g, off, none⟩) x.length c0) := (u1.cell (cell_lt g0)).trans g0
        have e0 : w1.cell? ⟨g, off + n * 3, none⟩ = some (.string x[n].1) := (u1.cell (cell_lt hc0)).trans hc0
        have e1 : w1.cell? ⟨g, off + n * 3 + 1, none⟩ = some (.slice A2 x[n].2.1.length c2) := (u1.cell (cell_lt hc1)).trans hc1
        by_cases hnm : x[n].1 = s
        · have hbe : (x[n].1.toList == s.toList) = true := by rw [str_beq]; simp [hnm]
          have cs := fun W (hW : Up wr W) => c_specSameSubs x[n].2.1 ys A2 B c2 d W (SR.up good_S b1 hW) (SR.up good_S k ((uu.trans hu).trans hW))
          have CS := Lib.hid cs
          have HNM := Lib.hid hnm
          clear cs hnm
          go_wp2_with fail
          refine (CS.out _ u1).mono ?_
          rintro e w2 ⟨bb, rfl, hbb, u2⟩
          have HQ : Hid (hasN x (s, ys) = bb) := by
            unfold Hid
            rw [HH.out]
            cases bb
            · refine decide_eq_false fun hq => ?_
              have := congrArg Prod.snd hq
              simp only [locOf] at this
              exact absurd (hbb.2 this) (by simp)
            · refine decide_eq_true ?_
              show (x[n].1, x[n].2.1) = (s, ys)
              rw [HNM.out, hbb.1 rfl]
          clear hbb
          go_wp2_with fail
          go_ret2
          exact ⟨by rw [HP.out, HQ.out]; first | done | rfl, ((uu.trans hu).trans u1).trans u2⟩
        · have hbe : (x[n].1.toList == s.toList) = false := by rw [str_beq]; simp [hnm]
          have HQ : Hid (hasN x (s, ys) = false) := by
            unfold Hid
            rw [HH.out]
            exact decide_eq_false fun hq => hnm (congrArg Prod.fst hq)
          clear hnm
          go_wp2_with fail
          go_ret2
          exact ⟨by rw [HP.out, HQ.out]; first | done | rfl, (uu.trans hu).trans u1⟩
      · have HN : Hid (∀ a (h : a < x.length), a < n + 1 → locLt (locOf x[a]) (s, ys) = true) := fun a h ha => by
          by_cases e : a = n
          · subst e; exact hL
          · exact HA.out a h (by omega)
        simp only [locOf] at hL
        rw [hL] at cc
        have CC := Lib.hid cc
        clear cc hL
        go_wp2_with fail
        refine wp_region_up (by kernel_rfl) (by kernel_rfl) ?_
        repeat (go_big_quiet_step ((go_at_call 107; exact up_call (CC.out _ (UpT.up _)) (UpT.up _))))
        refine wpQuiet_nil ?_
        rintro _ ⟨⟨w1, u1⟩, rfl⟩
        go_wp2_with fail
        go_roundw
        case rel => exact ⟨n + 1, by omega, by go_num, HN, hu.trans u1⟩
        case measure => simp [intOf]; omega
    · have hpos : posN x (s, ys) = n := posN_eq hn HA.out (fun hq => absurd hq hlt)
      have HQ := Lib.hid (hasN_end hpos hlt)
      have HP := Lib.hid hpos
      have hlb : decide ((n : Int) < (x.length : Int)) = false := by simp; omega
      have q0 := fun t' : UpT wr => cell_up t' g0
      clear hpos
      go_wp2_with fail
      refine wp_region_up (by kernel_rfl) (by kernel_rfl) ?_
      repeat (go_big_quiet_step (fail))
      refine wpQuiet_nil ?_
      rintro w1 ⟨⟨w1', u1⟩, rfl⟩
      have g1 : w1.cell? ⟨w.heap.size, 0, none⟩ = some (.slice A0 x.length c0) := (u1.cell (cell_lt g0)).trans g0
      go_wp2_with fail
      go_ret2
      exact ⟨by rw [HP.out, HQ.out]; first | done | rfl, (uu.trans hu).trans u1⟩
end Go.Proofs.YtfehlcbaalbajaaGreatDoor
