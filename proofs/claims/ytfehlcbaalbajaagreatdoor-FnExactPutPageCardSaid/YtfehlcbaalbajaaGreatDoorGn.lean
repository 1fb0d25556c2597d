/-
  GetNode: where a node stands; the program's side.
-/
import Derived.Test.YtfehlcbaalbajaaGreatDoorTr
namespace Go.Proofs.YtfehlcbaalbajaaGreatDoor
open Go.RowKit
set_option linter.unusedVariables false
set_option linter.unusedSimpArgs false

abbrev locOf (x : TNode) : ByteArray × List ByteArray := (x.1, x.2.1)
def posN (x : TTree) (l : ByteArray × List ByteArray) : Nat := (x.takeWhile fun n => locLt (locOf n) l).length
def hasN (x : TTree) (l : ByteArray × List ByteArray) : Bool := if h : posN x l < x.length then decide (locOf x[posN x l] = l) else false
theorem posN_le (x : TTree) (l : ByteArray × List ByteArray) : posN x l ≤ x.length := tw_le _ _
theorem tw_len_eq {α : Type} (p : α → Bool) : ∀ (l : List α) (i : Nat), i ≤ l.length → (∀ a (h : a < l.length), a < i → p l[a] = true) → (∀ h : i < l.length, p l[i] = false) → (l.takeWhile p).length = i
  | [], i, hi, _, _ => by simp at hi; subst hi; rfl
  | x :: l, i, hi, h1, h2 => by
    cases i with
    | zero =>
      have := h2 (by simp)
      rw [List.takeWhile_cons_of_neg (by simpa using this)]; rfl
    | succ i =>
      have h0 := h1 0 (by simp) (by omega)
      rw [List.takeWhile_cons_of_pos (by simpa using h0)]
      have := tw_len_eq p l i (by simpa using hi) (fun a ha hai => by have := h1 (a + 1) (by simpa using ha) (by omega); simpa using this) (fun h => by have := h2 (by simpa using h); simpa using this)
      simp [this]
theorem sorted_pair {x : TTree} (h : TreeP x) : ∀ (d a : Nat) (hb : a + d + 1 < x.length), locLt (locOf (x[a]'(by omega))) (locOf x[a + d + 1]) = true
  | 0, a, hb => by
    have := (h.2 (a + 1) hb).2 (by omega)
    simpa only [Nat.add_sub_cancel] using this
  | d + 1, a, hb => by
    have h1 := sorted_pair h d a (by omega)
    have h2 := (h.2 (a + (d + 1) + 1) hb).2 (by omega)
    simp only [Nat.add_sub_cancel] at h2
    exact lo_loc.tr _ _ _ h1 h2
theorem sorted_lt {x : TTree} (h : TreeP x) {a b : Nat} (hab : a < b) (hb : b < x.length) : locLt (locOf (x[a]'(by omega))) (locOf x[b]) = true := by
  have := sorted_pair h (b - a - 1) a (by omega)
  have e : a + (b - a - 1) + 1 = b := by omega
  simp only [e] at this
  exact this
theorem posN_eq {x : TTree} {l : ByteArray × List ByteArray} {i : Nat} (hi : i ≤ x.length) (h1 : ∀ a (h : a < x.length), a < i → locLt (locOf x[a]) l = true) (h2 : ∀ h : i < x.length, locLt (locOf x[i]) l = false) : posN x l = i := tw_len_eq _ x i hi h1 h2
set_option maxHeartbeats 4000000 in
theorem c_place1 (a b : TNode) (v u : Value) (w : World) (ha : AV shNode w v a) (hb : AV shNode w u b) (sa : Small a.2.1) (sb : Small b.2.1) (htab : Tab w) :
    Calls Tryz.prog 206 #[v, u] w (RetV (.int .i64 (cmpBy locLt (locOf a) (locOf b))) w) := by
  obtain ⟨cs, rfl, ha⟩ := ha
  obtain ⟨A1, c1, rfl, a0, a1, a2⟩ := openNode ha
  obtain ⟨ds, rfl, hb⟩ := hb
  obtain ⟨B1, d1, rfl, b0, b1, b2⟩ := openNode hb
  obtain ⟨x0, x1, x2⟩ := a
  obtain ⟨y0, y1, y2⟩ := b
  simp only at a0 a1 a2 b0 b1 b2 sa sb
  clear ha hb
  have SA := Lib.hid sa
  have SB := Lib.hid sb
  clear sa sb
  have uu : Up w ((w.alloc (.cells #[.string x0, .slice A1 x1.length c1, .string x2] 155)).alloc (.cells #[.string y0, .slice B1 y1.length d1, .string y2] 155)) := ((Up.refl w).alloc _).alloc _
  have cc := fun W (hW : Up w W) => c_compareLocations x0 y0 x1 y1 A1 B1 c1 d1 W (SR.up good_S a1 hW) (SR.up good_S b1 hW) SA.out SB.out (tab_up htab hW)
  generalize cmpBy locLt (x0, x1) (y0, y1) = z at *
  have CC := Lib.hid cc
  clear cc
  go_enter Tryz.func206, Tryz.ntmps206
  go_wp2_with fail
  refine (CC.out _ uu).mono ?_
  rintro e w1 ⟨rfl, u1⟩
  go_wp2_with fail
  go_ret
  exact ⟨rfl, uu.trans u1⟩
set_option maxRecDepth 100000 in
set_option maxHeartbeats 8000000 in
theorem c_BinarySearch (x : TTree) (hx : TreeP x) (sx : ∀ i (h : i < x.length), Small x[i].2.1) (A : Option Addr) (c : Nat) (t : TNode) (B : Option Addr) (d : Nat) (w : World) (h : SRW shNode w A c x) (k : SRW shS w B d t.2.1) (t0 : t.1.size ≤ maxLen) (t2 : t.2.2.size ≤ maxLen) (st : Small t.2.1) (htab : Tab w) :
    Calls Tryz.prog 205 #[.slice A x.length c, .agg #[.string t.1, .slice B t.2.1.length d, .string t.2.2], .func (.func 206) #[] #[]] w (RetV (.tuple #[.int .i64 (posN x (locOf t)), .bool (hasN x (locOf t))]) w) := by
  have hlen := h.len_le
  have h120 := hx.1
  have HX := Lib.hid hx
  have SX := Lib.hid sx
  have ST := Lib.hid st
  clear hx sx st
  have kB0 := Bk.new w 155 #[.string t.1, .slice B t.2.1.length d, .string t.2.2]
  have uu0 : Up w (w.alloc (.cells #[.string t.1, .slice B t.2.1.length d, .string t.2.2] 155)) := (Up.refl w).alloc _
  go_enter Tryz.func205, Tryz.ntmps205
  go_wp2_with fail
  go_loopw [9, 10] (fun i j wr => ∃ lo hi : Nat, lo ≤ hi ∧ hi ≤ x.length ∧ i = .int .i64 lo ∧ j = .int .i64 hi ∧ Hid ((∀ a (h : a < x.length), a < lo → locLt (locOf x[a]) (locOf t) = true) ∧ (∀ a (h : a < x.length), hi ≤ a → locLt (locOf x[a]) (locOf t) = false)) ∧ Up (w.alloc (.cells #[.string t.1, .slice B t.2.1.length d, .string t.2.2] 155)) wr) (fun i j _ => (intOf j).toNat - (intOf i).toNat)
  case atStart => exact ⟨0, x.length, Nat.zero_le _, Nat.le_refl _, rfl, rfl, ⟨fun a h ha => absurd ha (by omega), fun a h ha => absurd h (by omega)⟩, Up.refl _⟩
  case round =>
    obtain ⟨lo, hi, hlh, hhl, rfl, rfl, HA, hu⟩ := hrel
    have kB := kB0.up hu
    have q0 := fun t' : UpT wr => cell_up t' (kB.cell 0 : wr.cell? ⟨w.heap.size, 0, none⟩ = some (.string t.1))
    have q1 := fun t' : UpT wr => cell_up t' (kB.cell 1 : wr.cell? ⟨w.heap.size, 1, none⟩ = some (.slice B t.2.1.length d))
    have q2 := fun t' : UpT wr => cell_up t' (kB.cell 2 : wr.cell? ⟨w.heap.size, 2, none⟩ = some (.string t.2.2))
    have bt : ∀ W, Up wr W → AV shNode W (.agg #[.string t.1, .slice B t.2.1.length d, .string t.2.2]) t := fun W hW => ⟨_, rfl, mkNode (x := t) t0 (SR.up good_S k ((uu0.trans hu).trans hW)) t2⟩
    by_cases hlt : lo < hi
    · obtain ⟨m, hm⟩ : ∃ m, m = (lo + hi) / 2 := ⟨_, rfl⟩
      have hm1 : lo ≤ m := by omega
      have hm2 : m < hi := by omega
      have hml : m < x.length := by omega
      have hmi : ((lo : Int) + (hi : Int)) / 2 = (m : Int) := by omega
      clear hm
      obtain ⟨g, off, A2, c2, rfl, _, hgl, hc0, hc1, hc2, b0, b1, b2, _⟩ := atNode (h.up good_Node (uu0.trans hu)) hml
      have p0 := fun t' : UpT wr => cell_up t' hc0
      have p1 := fun t' : UpT wr => cell_up t' hc1
      have p2 := fun t' : UpT wr => cell_up t' hc2
      have cc := fun W (hW : Up wr W) => c_place1 x[m] t _ _ W (AV.up good_Node ⟨_, rfl, mkNode (x := x[m]) b0 b1 b2⟩ hW) (bt W hW) (SX.out m hml) ST.out (tab_up htab ((uu0.trans hu).trans hW))
      cases hL : locLt (locOf x[m]) (locOf t)
      · have HN : Hid ((∀ a (h : a < x.length), a < lo → locLt (locOf x[a]) (locOf t) = true) ∧ (∀ a (h : a < x.length), m ≤ a → locLt (locOf x[a]) (locOf t) = false)) := ⟨HA.out.1, fun a h ha => by
          cases hq : locLt (locOf x[a]) (locOf t)
          · rfl
          · rcases Nat.eq_or_lt_of_le ha with e | e
            · subst e; rw [hL] at hq; cases hq
            · have := lo_loc.tr _ _ _ (sorted_lt HX.out e h) hq
              rw [hL] at this; cases this⟩
        have hz := (cmpBy_nonneg lo_loc _ _).2 hL
        generalize cmpBy locLt (locOf x[m]) (locOf t) = z at cc hz
        have CC := Lib.hid cc
        clear cc hL
        go_wp2_with fail
        refine wp_region_up (by kernel_rfl) (by kernel_rfl) ?_
        repeat (go_big_quiet_step ((go_at_call 206; exact up_call (CC.out _ (UpT.up _)) (UpT.up _))))
        refine wpQuiet_nil ?_
        rintro _ ⟨⟨w1, u1⟩, rfl⟩
        go_wp2_with fail
        go_roundw
        case rel => exact ⟨lo, m, by omega, by omega, rfl, rfl, HN, hu.trans u1⟩
        case measure => simp [intOf]; omega
      · have HN : Hid ((∀ a (h : a < x.length), a < m + 1 → locLt (locOf x[a]) (locOf t) = true) ∧ (∀ a (h : a < x.length), hi ≤ a → locLt (locOf x[a]) (locOf t) = false)) := ⟨fun a h ha => by
          rcases Nat.lt_or_ge a m with e | e
          · exact lo_loc.tr _ _ _ (sorted_lt HX.out e hml) hL
          · obtain rfl : a = m := (by omega)
            exact hL, HA.out.2⟩
        have hz : cmpBy locLt (locOf x[m]) (locOf t) = -1 := cmpBy_lt hL
        rw [hz] at cc
        have CC := Lib.hid cc
        clear cc hL hz
        go_wp2_with fail
        refine wp_region_up (by kernel_rfl) (by kernel_rfl) ?_
        repeat (go_big_quiet_step ((go_at_call 206; exact up_call (CC.out _ (UpT.up _)) (UpT.up _))))
        refine wpQuiet_nil ?_
        rintro _ ⟨⟨w1, u1⟩, rfl⟩
        go_wp2_with fail
        go_roundw
        case rel => exact ⟨m + 1, hi, by omega, by omega, by go_num, rfl, HN, hu.trans u1⟩
        case measure => simp [intOf]; omega
    · obtain rfl : lo = hi := by omega
      have hpos : posN x (locOf t) = lo := posN_eq hhl HA.out.1 (fun hq => HA.out.2 lo hq (Nat.le_refl _))
      have HP := Lib.hid hpos
      clear hlt
      by_cases hlx : lo < x.length
      · have hhas : hasN x (locOf t) = decide (locOf x[lo] = locOf t) := by
          unfold hasN
          rw [dif_pos (by rw [hpos]; exact hlx)]
          simp only [hpos]
        have HH := Lib.hid hhas
        clear hpos hhas
        obtain ⟨g, off, A2, c2, rfl, _, hgl, hc0, hc1, hc2, b0, b1, b2, _⟩ := atNode (h.up good_Node (uu0.trans hu)) hlx
        have p0 := fun t' : UpT wr => cell_up t' hc0
        have p1 := fun t' : UpT wr => cell_up t' hc1
        have p2 := fun t' : UpT wr => cell_up t' hc2
        have cc := fun W (hW : Up wr W) => c_place1 x[lo] t _ _ W (AV.up good_Node ⟨_, rfl, mkNode (x := x[lo]) b0 b1 b2⟩ hW) (bt W hW) (SX.out lo hlx) ST.out (tab_up htab ((uu0.trans hu).trans hW))
        by_cases he : locOf x[lo] = locOf t
        · have hz : cmpBy locLt (locOf x[lo]) (locOf t) = 0 := (cmpBy_zero lo_loc _ _).2 he
          rw [hz] at cc
          have CC := Lib.hid cc
          have HQ := Lib.hid (HH.out.trans (decide_eq_true he))
          clear cc hz he HH
          go_wp2_with fail
          refine wp_region_up (by kernel_rfl) (by kernel_rfl) ?_
          repeat (go_big_quiet_step ((go_at_call 206; exact up_call (CC.out _ (UpT.up _)) (UpT.up _))))
          refine wpQuiet_nil ?_
          rintro _ ⟨⟨w1, u1⟩, rfl⟩
          go_wp2_with fail
          go_ret2
          exact ⟨by rw [HP.out, HQ.out]; first | done | rfl, (uu0.trans hu).trans u1⟩
        · have hz : ¬ cmpBy locLt (locOf x[lo]) (locOf t) = 0 := fun e => he ((cmpBy_zero lo_loc _ _).1 e)
          have HQ := Lib.hid (HH.out.trans (decide_eq_false he))
          generalize cmpBy locLt (locOf x[lo]) (locOf t) = z at cc hz
          have hzb : (z == 0) = false := by simpa using hz
          have CC := Lib.hid cc
          clear cc hz he HH
          go_wp2_with fail
          refine wp_region_up (by kernel_rfl) (by kernel_rfl) ?_
          repeat (go_big_quiet_step ((go_at_call 206; exact up_call (CC.out _ (UpT.up _)) (UpT.up _))))
          refine wpQuiet_nil ?_
          rintro _ ⟨⟨w1, u1⟩, rfl⟩
          go_wp2_with fail
          go_ret2
          exact ⟨by rw [HP.out, HQ.out]; first | done | rfl, (uu0.trans hu).trans u1⟩
      · have hhas : hasN x (locOf t) = false := by
          unfold hasN
          rw [dif_neg (by rw [hpos]; exact hlx)]
        have HQ := Lib.hid hhas
        have hlb : decide ((lo : Int) < (x.length : Int)) = false := by simp; omega
        have CC : True := trivial
        clear hpos hhas
        go_wp2_with fail
        refine wp_region_up (by kernel_rfl) (by kernel_rfl) ?_
        repeat (go_big_quiet_step (fail))
        refine wpQuiet_nil ?_
        rintro _ ⟨⟨w1, u1⟩, rfl⟩
        go_wp2_with fail
        go_ret2
        exact ⟨by rw [HP.out, HQ.out]; first | done | rfl, (uu0.trans hu).trans u1⟩
end Go.Proofs.YtfehlcbaalbajaaGreatDoor
