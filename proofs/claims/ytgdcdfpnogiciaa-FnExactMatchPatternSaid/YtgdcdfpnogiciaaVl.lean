/-
  Matching, the program's side: Clone of bools, join, strings.ContainsFunc at codes.
-/
import Derived.Test.YtgdcdfpnogiciaaVh
import Derived.Test.YtgdcdfpnogiciaaVk
import Derived.Laws.RangeString
import Derived.Lib.OthersKept
import Derived.Deep.LoopGhost
namespace Go.Proofs.Ytgdcdfpnogiciaa
open Go.RowKit
set_option linter.unusedVariables false
set_option linter.unusedSimpArgs false

set_option maxRecDepth 100000 in
set_option maxHeartbeats 1000000 in
theorem c_CloneBool (xs : List Bool) (A : Option Addr) (c : Nat) (w : World) (h : SRW shB w A c xs) (hn : xs.length ≤ 1048576) :
    Calls Try.prog 85 #[.slice A xs.length c] w (ToL shB xs w) := by
  obtain ⟨i0, hi0, hz0, hz1, hz2⟩ := info_parts cinfo_boolV
  cases A with
  | none =>
    obtain rfl : xs = [] := by
      rcases Nat.eq_zero_or_pos xs.length with h0 | hp
      · exact List.eq_nil_of_length_eq_zero h0
      · obtain ⟨g, off, hA, _⟩ := h.2.2 hp; cases hA
    have he : ∀ W : World, (binOp .eql 69 (.slice none 0 c) (.slice none 0 0)).run Try.prog W = .ok (.bool true) W := fun _ => rfl
    go_enter Try.func85, Try.ntmps85
    go_wp2_with fail
    go_ret
    exact ⟨none, 0, [], rfl, SO.nil _ _ _, by simp, Up.refl _⟩
  | some ad =>
    have he : ∀ W : World, (binOp .eql 69 (.slice (some ad) xs.length c) (.slice none 0 0)).run Try.prog W = .ok (.bool false) W := fun _ => rfl
    go_enter Try.func85, Try.ntmps85
    go_wp2_with (first
      | (at_builtin
         refine wpList_app_new good_B flat_B rfl _ _ _ 4 rfl i0 _ Try.underlying69 hi0 hz0 hz1 (by rfl) rfl rfl (h.up good_B ((Up.refl w).alloc _)) (by rw [hz2]; omega) ?_
         intro D d bl w1 hso hnd hu))
    go_ret
    exact ⟨D, d, bl, rfl, hso.wide good_B (by simp) (Nat.le_refl _), hnd, ((Up.refl w).alloc _).trans hu⟩

/-- What join gives: the row holds both sets; has it become larger? -/
def JoinP (g off : Nat) (t : TypeId) (F G : List Bool) (w : World) (e : Ending) (w' : World) : Prop :=
  ∃ (b : Bool) (C' : Array Value), e = .returned (.bool b) ∧ But g w w' ∧ RowB w' g off t C' (orL F G) ∧ (b = true ↔ ∃ j : Nat, G[j]? = some true ∧ ¬ F[j]? = some true)
theorem larger_succ {F G : List Bool} {q : Nat} {b x y : Bool} (hx : F[q]? = some x) (hy : G[q]? = some y) (hb : b = true ↔ ∃ j : Nat, j < q ∧ G[j]? = some true ∧ ¬ F[j]? = some true) :
    (b || (y && !x)) = true ↔ ∃ j : Nat, j < q + 1 ∧ G[j]? = some true ∧ ¬ F[j]? = some true := by
  constructor
  · intro h
    rcases Bool.or_eq_true_iff.1 h with h | h
    · obtain ⟨j, a, c⟩ := hb.1 h
      exact ⟨j, by omega, c⟩
    · refine ⟨q, by omega, ?_⟩
      rw [hx, hy]
      cases x <;> cases y <;> simp_all
  · rintro ⟨j, a, c, d⟩
    by_cases e : j = q
    · subst e
      rw [hx] at d
      rw [hy] at c
      cases x <;> cases y <;> simp_all
    · rw [hb.2 ⟨j, by omega, c, d⟩]
      rfl
set_option maxRecDepth 100000 in
set_option maxHeartbeats 4000000 in
theorem vc_join (g off : Nat) (t : TypeId) (C : Array Value) (F G : List Bool) (D : Option Addr) (c d lo hi : Nat) (w : World) (hl : F.length = G.length) (hn : F.length ≤ 100) (h : RowB w g off t C F) (hG : SR shB w lo hi D d G) (hg : g < lo) :
    Calls Try.prog 87 #[.slice (some ⟨g, off, none⟩) F.length c, .slice D G.length d] w (JoinP g off t F G w) := by
  have HL := Lib.hid hl
  have hn2 : G.length ≤ 100 := by omega
  clear hl
  go_enter Try.func87, Try.ntmps87
  go_wp2_with fail
  go_loopw [5, 10] (fun bv i wr => ∃ (q : Nat) (b : Bool) (C' : Array Value), q ≤ G.length ∧ i = .int .i64 q ∧ bv = .bool b ∧ RowB wr g off t C' (mixB F G q) ∧ But g w wr ∧ Hid (b = true ↔ ∃ j : Nat, j < q ∧ G[j]? = some true ∧ ¬ F[j]? = some true)) (fun _ i _ => G.length - (intOf i).toNat)
  case atStart => exact ⟨0, false, C, by omega, rfl, rfl, by rw [mixB_zero]; exact h, But.refl _ _, by unfold Hid; simp⟩
  case round =>
    obtain ⟨q, b, C', hq, rfl, rfl, rq, bq, hb⟩ := hrel
    by_cases hql : q < G.length
    · have hqF : q < F.length := by have := HL.out; omega
      obtain ⟨x, hx⟩ := at_of_lt hqF
      obtain ⟨y, hy⟩ := at_of_lt hql
      have m1 := rq.cellq ((mixB_at HL.out hqF).trans hx)
      have m2 := rq.1.frozen (off + q)
      have hE2 : SR shB wr lo hi D d G := hG.keep good_B (bq.keepB hg)
      obtain ⟨gE, oE, rfl, gE1, gE2, m3⟩ := hE2.at_B hql
      have hEq : G[q] = y := by rw [List.getElem?_eq_getElem hql] at hy; injection hy
      rw [hEq] at m3
      have rn := rq.set (i := q) (by rw [mixB_len HL.out (by omega)]; exact hqF) (x || y)
      rw [set0_or HL.out hqF hx hy] at rn
      have bn := bq.trans (But.set wr g (off + q) (.bool (x || y)))
      have hbn := Lib.hid (larger_succ hx hy hb.out)
      clear hEq hx hy hE2 hb
      cases x <;> cases y <;> cases b
      all_goals
        simp only [Bool.or_false, Bool.or_true, Bool.true_or, Bool.false_or] at rn bn
        go_wp2_with fail
        go_roundw
        case rel => exact ⟨q + 1, _, _, by omega, by go_num, rfl, rn, bn, hbn⟩
        case measure => simp [intOf]; omega
    · have rn : RowB wr g off t C' (orL F G) := by rw [← mixB_all (q := q) HL.out (by have := HL.out; omega)]; exact rq
      have hfin : Hid (b = true ↔ ∃ j : Nat, G[j]? = some true ∧ ¬ F[j]? = some true) := by
        unfold Hid
        rw [hb.out]
        constructor
        · rintro ⟨j, _, h⟩; exact ⟨j, h⟩
        · rintro ⟨j, h, h2⟩
          refine ⟨j, ?_, h, h2⟩
          rcases Nat.lt_or_ge j G.length with e | e
          · omega
          · rw [List.getElem?_eq_none e] at h; cases h
      have hqG : G.length ≤ q := by omega
      go_wp2_with fail
      go_ret
      exact ⟨b, C', rfl, bq, rn, hfin.out⟩

/-! ### strings.ContainsFunc at a string of single bytes -/
def IdxV (p : UInt8 → Bool) (s : ByteArray) (w : World) (e : Ending) (w' : World) : Prop :=
  ∃ n : Int, e = .returned (.int .i64 n) ∧ Up w w' ∧ ((∃ (i : Nat) (h : i < s.size), p s[i] = true) ↔ 0 ≤ n)
set_option maxRecDepth 100000 in
set_option maxHeartbeats 2000000 in
theorem vc_indexFunc (kf : FuncId) (cap : Array Value) (eg : ∀ args w, (callFunc kf args).run Try.prog w = .ok (.enter kf args) w) (p : UInt8 → Bool) (s : ByteArray) (w : World) (hm : s.size ≤ maxLen) (ha : ∀ (i : Nat) (h : i < s.size), s[i].toNat < 128)
    (hf : ∀ (W : World) (c : UInt8), Up w W → Calls Try.prog kf (#[.int .i32 (c.toNat : Int)] ++ cap) W (BoolQ (p c) W)) :
    Calls Try.prog 116 #[.string s, .func (.func kf) #[] cap, .bool true] w (IdxV p s w) := by
  unfold maxLen at hm
  have HF := Lib.hid hf; clear hf
  have HA := Lib.hid ha; clear ha
  go_enter Try.func116, Try.ntmps116
  go_wp2_with fail
  go_loopg [] s.size (fun gf wx => ∃ pos : Nat, wx.heap[w.heap.size]? = some (.stringIter s pos) ∧ Up w wx ∧ Hid (∀ (i : Nat) (h : i < s.size), i < pos → p s[i] = false) ∧ s.size ≤ pos + gf)
  case atStart => exact ⟨0, World.iter_heap w s 0, (Up.refl w).alloc _, fun i h hi => absurd hi (by omega), by omega⟩
  case round =>
    obtain ⟨pos, hit, hu, hno, hfu⟩ := hrel
    by_cases hps : pos < s.size
    · obtain ⟨g', rfl⟩ : ∃ g', gk = g' + 1 := ⟨gk - 1, by omega⟩
      have hnx : ∀ ty, (Instr.next (.pointer (some ⟨w.heap.size, 0, none⟩)) true ty).run Try.prog wr = _ := fun ty => Lib.run_next_ascii_at wr w.heap.size s pos ty hit hps (HA.out pos hps)
      have hit2 := Lib.iterAt_heap wr w.heap.size s pos (pos + 1) hit
      have hu2 : Up w (wr.iterAt w.heap.size s (pos + 1)) := Lib.below_iterAt hu (k := w.heap.size) (Nat.le_refl _) s (pos + 1)
      obtain ⟨W, hWd⟩ : ∃ W, wr.iterAt w.heap.size s (pos + 1) = W := ⟨_, rfl⟩
      rw [hWd] at hnx hit2 hu2
      have cS := HF.out W s[pos] hu2
      clear hWd hit hu
      cases hsp : p s[pos]
      · have hN : Hid (∀ (i : Nat) (h : i < s.size), i < pos + 1 → p s[i] = false) := by
          unfold Hid
          intro i h hi
          by_cases e : i = pos
          · subst e; exact hsp
          · exact hno.out i h (by omega)
        rw [hsp] at cS
        clear hsp hno
        go_wp2_with fail
        refine cS.mono ?_
        rintro e w1 ⟨rfl, u1⟩
        have hit3 := (u1.block w.heap.size (by
          rcases Nat.lt_or_ge w.heap.size W.heap.size with h | h
          · exact h
          · rw [Array.getElem?_eq_none h] at hit2; cases hit2)).trans hit2
        go_wp2_with fail
        go_roundg g'
        case measure => omega
        case rel => exact ⟨pos + 1, hit3, hu2.trans u1, hN, by omega⟩
      · have hY : Hid (∃ (i : Nat) (h : i < s.size), p s[i] = true) := ⟨pos, hps, hsp⟩
        rw [hsp] at cS
        clear hsp hno
        go_wp2_with fail
        refine cS.mono ?_
        rintro e w1 ⟨rfl, u1⟩
        go_wp2_with fail
        go_ret
        exact ⟨_, rfl, hu2.trans u1, ⟨fun _ => by omega, fun _ => hY.out⟩⟩
    · have hnx : ∀ ty, (Instr.next (.pointer (some ⟨w.heap.size, 0, none⟩)) true ty).run Try.prog wr = _ := fun ty => Lib.run_next_end_at wr w.heap.size s pos ty hit hps
      have hN : Hid (¬ ∃ (i : Nat) (h : i < s.size), p s[i] = true) := by
        rintro ⟨i, h, hp⟩
        rw [hno.out i h (by omega)] at hp
        cases hp
      clear hno
      go_wp2
      go_ret
      exact ⟨_, rfl, hu, ⟨fun h => absurd h hN.out, fun h => absurd h (by decide)⟩⟩
set_option maxHeartbeats 1000000 in
theorem vc_sContainsFunc (kf : FuncId) (cap : Array Value) (eg : ∀ args w, (callFunc kf args).run Try.prog w = .ok (.enter kf args) w) (p : UInt8 → Bool) (s : ByteArray) (w : World) (hm : s.size ≤ maxLen) (ha : ∀ (i : Nat) (h : i < s.size), s[i].toNat < 128)
    (hf : ∀ (W : World) (c : UInt8), Up w W → Calls Try.prog kf (#[.int .i32 (c.toNat : Int)] ++ cap) W (BoolQ (p c) W)) :
    Calls Try.prog 104 #[.string s, .func (.func kf) #[] cap] w (EqP (∃ (i : Nat) (h : i < s.size), p s[i] = true) w) := by
  have CI := Lib.hid (vc_indexFunc kf cap eg p s w hm ha hf)
  clear hf ha eg
  have CJ : Hid (Calls Try.prog 112 #[.string s, .func (.func kf) #[] cap] w (IdxV p s w)) := by
    unfold Hid
    go_enter Try.func112, Try.ntmps112
    go_wp2_with fail
    refine CI.out.mono ?_
    rintro e w1 ⟨n, rfl, u1, hn⟩
    have HN := Lib.hid hn; clear hn
    go_wp2_with fail
    go_ret
    exact ⟨n, rfl, u1, HN.out⟩
  clear CI
  go_enter Try.func104, Try.ntmps104
  go_wp2_with fail
  refine CJ.out.mono ?_
  rintro e w1 ⟨n, rfl, u1, hn⟩
  by_cases h0 : 0 ≤ n
  · have HY := Lib.hid (hn.2 h0); clear hn
    go_wp2_with fail
    go_ret
    exact EqP.t HY.out u1
  · have HY := Lib.hid (fun h => h0 (hn.1 h)); clear hn
    have h0d : decide (0 ≤ n) = false := decide_eq_false h0
    go_wp2_with fail
    go_ret
    exact EqP.f HY.out u1
set_option maxHeartbeats 1000000 in
theorem vc_once1 (c : UInt8) (Bm Ba : Nat) (s : ByteArray) (k : Nat) (w : World) (hm : s.size ≤ 64) (h1 : w.cell? ⟨Bm, 0, none⟩ = some (.string s)) (h2 : w.cell? ⟨Ba, 0, none⟩ = some (.int .i64 (k : Int))) (hk : k < s.size) :
    Calls Try.prog 105 #[.int .i32 (c.toNat : Int), .pointer (some ⟨Bm, 0, none⟩), .pointer (some ⟨Ba, 0, none⟩)] w (BoolQ (inCodeV c s[k]) w) := by
  have hc := v_int c
  go_enter Try.func105, Try.ntmps105
  go_wp2_with fail
  refine (vc_inCode c s[k] _).mono ?_
  rintro e w1 ⟨rfl, rfl⟩
  go_wp2_with fail
  go_ret
  exact BoolQ.mk rfl (Up.refl _)
theorem eg_once1 : ∀ args w, (callFunc 105 args).run Try.prog w = .ok (.enter 105 args) w := enters_of Try.func105 (by kernel_rfl) rfl
theorem code_small {c : UInt8} (h : isCodeV c = true) : c.toNat < 128 := by
  simp only [isCodeV, Bool.or_eq_true, beq_iff_eq] at h
  rcases h with (((((rfl | rfl) | rfl) | rfl) | rfl) | rfl) | rfl <;> decide
theorem hp_iff (s t : ByteArray) (k : Nat) (hk : k ≤ s.size) : Lib.hasPrefix (s.extract k s.size).data.toList t.data.toList = true ↔ (k + t.size ≤ s.size ∧ s.extract k (k + t.size) = t) := by
  have e1 : (s.extract k s.size).data.toList = s.data.toList.drop k := by
    simp [ByteArray.data_extract, Array.toList_extract, List.extract]
    rw [List.take_of_length_le]
    simp
  unfold Lib.hasPrefix
  rw [e1, List.isPrefixOf_iff_prefix, List.prefix_iff_eq_take]
  have hs : s.data.toList.length = s.size := by simp
  have ht : t.data.toList.length = t.size := by simp
  constructor
  · intro h
    have hlen : t.size ≤ s.size - k := by
      have := congrArg List.length h
      rw [List.length_take, List.length_drop, hs, ht] at this
      omega
    refine ⟨by omega, ?_⟩
    apply ByteArray.ext
    apply Array.ext'
    rw [h, ht]
    simp [ByteArray.data_extract, Array.toList_extract, List.extract]
  · rintro ⟨h1, h2⟩
    have := congrArg (fun q : ByteArray => q.data.toList) h2
    simp [ByteArray.data_extract, Array.toList_extract, List.extract] at this
    rw [ht]
    exact this.symm
end Go.Proofs.Ytgdcdfpnogiciaa
