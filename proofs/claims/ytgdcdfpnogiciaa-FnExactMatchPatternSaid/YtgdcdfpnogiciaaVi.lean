/-
  Matching: contracts of the reference's l04Once.
-/
import Derived.Test.YtgdcdfpnogiciaaVg
namespace Go.Proofs.Ytgdcdfpnogiciaa
open Go.RowKit
set_option linter.unusedVariables false
set_option linter.unusedSimpArgs false

theorem set0_or {G E : List Bool} (h : G.length = E.length) {q : Nat} (hq : q < G.length) {b1 b2 : Bool} (h1 : G[q]? = some b1) (h2 : E[q]? = some b2) : (mixB G E q).set q (b1 || b2) = mixB G E (q + 1) := by
  rw [← mixB_set h hq]
  rw [List.getElem?_eq_getElem hq] at h1
  rw [List.getElem?_eq_getElem (by omega)] at h2
  injection h1 with h1
  injection h2 with h2
  rw [h1, h2]
theorem at_of_lt {G : List Bool} {q : Nat} (hq : q < G.length) : ∃ b, G[q]? = some b := ⟨G[q], List.getElem?_eq_getElem hq⟩
theorem But.keepB {g : Nat} {w w' : World} (h : But g w w') {lo hi : Nat} (hg : g < lo) : Keeps lo hi w w' := fun b h1 h2 => h.block b (by omega)
theorem Bk.but {w w' : World} {g k : Nat} {t : TypeId} {C : Array Value} (h : Bk w g t C) (b : But k w w') (hk : g ≠ k) : Bk w' g t C := (b.block g hk).trans h
theorem SetR.mk {N : Nat} {R : Nat → Nat → Prop} {F G : List Bool} {w w' : World} {D : Option Addr} {d n : Nat} (hn : n = N + 1) (hS : Set_ N R F G) (h : SR shB w' w.heap.size w'.heap.size D d G) (u : Up w w') : SetR N R F w (.returned (.slice D n d)) w' :=
  ⟨D, d, G, by rw [hS.1, hn], h, hS, u⟩

section
variable {γ : Type} {shQq : Sh γ} (A : List γ → Nat → Nat → Prop) (s : ByteArray)
variable (x0 x1 : Int) (x2 x3 : ByteArray) (x4 : List (List γ))
/-- What the union over the alternatives is. -/
theorem once_alts (a4 : 0 < x4.length) (i j : Nat) : Ronce A s (x0, x1, x2, x3, x4) i j ↔ ∃ l ∈ x4, A l i j := by
  unfold Ronce
  try dsimp only
  rw [if_pos a4]
theorem once_text (a4 : x4.length = 0) (a3 : 0 < x3.size) (i j : Nat) : Ronce A s (x0, x1, x2, x3, x4) i j ↔ (j = i + x3.size ∧ j ≤ s.size ∧ s.extract i j = x3) := by
  unfold Ronce
  try dsimp only
  rw [if_neg (show ¬ 0 < x4.length by omega), if_pos a3]
theorem once_codes (a4 : x4.length = 0) (a3 : x3.size = 0) (i j : Nat) : Ronce A s (x0, x1, x2, x3, x4) i j ↔ (j = i + 1 ∧ ∃ h : i < s.size, ∃ (q : Nat) (hq : q < x2.size), inCodeV x2[q] s[i] = true) := by
  unfold Ronce
  try dsimp only
  rw [if_neg (show ¬ 0 < x4.length by omega), if_neg (show ¬ 0 < x3.size by omega)]

set_option maxRecDepth 100000 in
set_option maxHeartbeats 4000000 in
theorem vc_onceAlts (good_Qq : Good shQq) (hs : s.size ≤ 64) (a4 : 0 < x4.length)
    (cE : ∀ (l : List γ) (Ad : Option Addr) (c : Nat) (F : List Bool) (B : Option Addr) (d : Nat) (w : World), l ∈ x4 → SRW shQq w Ad c l → SRW shB w B d F → F.length = s.size + 1 → Calls Try.prog 36 #[.string s, .slice Ad l.length c, .slice B F.length d] w (SetR s.size (A l) F w))
    (v : Value) (F : List Bool) (B : Option Addr) (d : Nat) (w : World) (h : AV (shPattern shQq) w v (x0, x1, x2, x3, x4)) (hF : SRW shB w B d F) (hl : F.length = s.size + 1) :
    Calls Try.prog 80 #[.string s, v, .slice B F.length d] w (SetR s.size (Ronce A s (x0, x1, x2, x3, x4)) F w) := by
  have HE := Lib.hid cE; clear cE
  obtain ⟨cs, rfl, h⟩ := h
  have ho := openPattern h
  dsimp only at ho
  obtain ⟨A4, c4, rfl, b0, b1, b2, b3, b4⟩ := ho
  have bm2 := b2; unfold maxLen at bm2
  have bm3 := b3; unfold maxLen at bm3
  have bl4 := b4.len_le
  have flen : F.length < 100 := by omega
  have hmk := fun W => run_make_bools (s.size + 1) (by omega) ((s.size : Int) + 1) (by omega) W
  obtain ⟨C0, hC0⟩ : ∃ C0, C0 = madeCells #[.bool false] (s.size + 1) := ⟨_, rfl⟩
  simp only [← hC0] at hmk
  have k1 : Bk ((w.alloc (.cells #[.int .i64 x0, .int .i64 x1, .string x2, .string x3, .slice A4 x4.length c4] 51)).alloc (.cells C0 4)) w.heap.size 51 #[.int .i64 x0, .int .i64 x1, .string x2, .string x3, .slice A4 x4.length c4] := (Bk.new _ _ _).alloc _
  have u1 : Up w ((w.alloc (.cells #[.int .i64 x0, .int .i64 x1, .string x2, .string x3, .slice A4 x4.length c4] 51)).alloc (.cells C0 4)) := ((Up.refl _).alloc _).alloc _
  have r1 : RowB ((w.alloc (.cells #[.int .i64 x0, .int .i64 x1, .string x2, .string x3, .slice A4 x4.length c4] 51)).alloc (.cells C0 4)) (w.heap.size + 1) 0 4 C0 (List.replicate (s.size + 1) false) := by
    have e : (w.alloc (.cells #[.int .i64 x0, .int .i64 x1, .string x2, .string x3, .slice A4 x4.length c4] 51)).heap.size = w.heap.size + 1 := by simp
    have := RowB.made (w.alloc (.cells #[.int .i64 x0, .int .i64 x1, .string x2, .string x3, .slice A4 x4.length c4] 51)) (s.size + 1) 4
    rw [e, ← hC0] at this
    exact this
  clear hC0
  have HL := Lib.hid hl; clear hl
  have a4i : (0 : Int) < (x4.length : Int) := by omega
  have g4 : ((w.alloc (.cells #[.int .i64 x0, .int .i64 x1, .string x2, .string x3, .slice A4 x4.length c4] 51)).alloc (.cells C0 4)).cell? ⟨w.heap.size, 4, none⟩ = some (.slice A4 x4.length c4) := k1.cell 4
  go_enter Try.func80, Try.ntmps80
  go_wp2_with fail
  go_loopw [8] (fun i wr => ∃ (k : Nat) (C : Array Value) (G : List Bool), k ≤ x4.length ∧ i = .int .i64 k ∧ RowB wr (w.heap.size + 1) 0 4 C G ∧ Hid (G.length = s.size + 1) ∧ Hid (∀ j : Nat, G[j]? = some true ↔ ∃ l ∈ x4.take k, Img (A l) F j) ∧ Bk wr w.heap.size 51 #[.int .i64 x0, .int .i64 x1, .string x2, .string x3, .slice A4 x4.length c4] ∧ Up w wr) (fun i _ => x4.length - (intOf i).toNat)
  case atStart => exact ⟨0, C0, _, by omega, rfl, r1, by unfold Hid; simp, by
    unfold Hid
    intro j
    constructor
    · intro hj; exact absurd hj (repl_false _ j)
    · rintro ⟨l, hl, _⟩; simp at hl, k1, u1⟩
  case round =>
    obtain ⟨k, C, G, hk, rfl, rr, hGl, hG, kk, uw⟩ := hrel
    have f4 : wr.cell? ⟨w.heap.size, 4, none⟩ = some (.slice A4 x4.length c4) := kk.cell 4
    by_cases hlt : k < x4.length
    · obtain ⟨g, off, A1, c1, rfl, _, _, hc0, l0⟩ := (b4.up (good_L good_Qq) uw).at_L hlt
      go_wp2_with fail
      refine (HE.out x4[k] A1 c1 F B d _ (List.getElem_mem hlt) l0 (hF.upB uw) HL.out).mono ?_
      rintro e wc ⟨D, dc, E, rfl, hE, hS, uc⟩
      have rc := rr.up uc
      have kc := kk.up uc
      have glt := rr.1.lt
      have hGE : G.length = E.length := hGl.out.trans hS.1.symm
      have HGE := Lib.hid hGE; clear hGE
      have hGn : G.length < 100 := by have := hGl.out; omega
      have hEn : E.length ≤ G.length := by have := HGE.out; omega
      have hGs : G.length ≤ s.size + 1 := by have := hGl.out; omega
      have hGs' : s.size + 1 ≤ G.length := by have := hGl.out; omega
      have hEs' : s.size + 1 ≤ E.length := by have := HGE.out; omega
      clear f4 hc0 l0
      obtain ⟨wo, rfl⟩ : ∃ wo : World, wo = wr := ⟨_, rfl⟩
      go_wp2_with fail
      go_loopw [10] (fun i wr => ∃ (q : Nat) (C' : Array Value), q ≤ G.length ∧ i = .int .i64 q ∧ RowB wr (w.heap.size + 1) 0 4 C' (mixB G E q) ∧ But (w.heap.size + 1) wc wr) (fun i _ => G.length - (intOf i).toNat)
      case atStart => exact ⟨0, C, by omega, rfl, by rw [mixB_zero]; exact rc, But.refl _ _⟩
      case round =>
        obtain ⟨q, C', hq, rfl, rq, bq⟩ := hrel
        have f4 : wr.cell? ⟨w.heap.size, 4, none⟩ = some (.slice (some ⟨g, off, none⟩) x4.length c4) := (kc.but bq (by omega)).cell 4
        by_cases hql : q < G.length
        · have hqE : q < E.length := by omega
          have hqs : q < s.size + 1 := by omega
          obtain ⟨x, hx⟩ := at_of_lt hql
          obtain ⟨y, hy⟩ := at_of_lt hqE
          have m1 := rq.cell0 ((mixB_at HGE.out hql).trans hx)
          have m2 := rq.1.frozen q
          have hE2 : SR shB wr wo.heap.size wc.heap.size D dc E := hE.keep good_B (bq.keepB (by omega))
          obtain ⟨gE, oE, rfl, gE1, gE2, m3⟩ := hE2.at_B hqE
          have hEq : E[q] = y := by rw [List.getElem?_eq_getElem hqE] at hy; injection hy
          rw [hEq] at m3
          have rn := rq.set0 (i := q) (by rw [mixB_len HGE.out hq]; exact hql) (x || y)
          rw [set0_or HGE.out hql hx hy] at rn
          have bn := bq.trans (But.set wr (w.heap.size + 1) q (.bool (x || y)))
          clear hEq hx hy hE2
          cases x <;> cases y
          all_goals
            simp only [Bool.or_false, Bool.or_true, Bool.true_or, Bool.false_or] at rn bn
            go_wp2_with fail
            go_roundw
            case rel => exact ⟨q + 1, _, by omega, by go_num, rn, bn⟩
            case measure => simp [intOf]; omega
        · have rn : RowB wr (w.heap.size + 1) 0 4 C' (orL G E) := by rw [← mixB_all (q := q) HGE.out (by omega)]; exact rq
          have hqG : G.length ≤ q := by omega
          have hqs : s.size + 1 ≤ q := by omega
          go_wp2_with fail
          go_roundw
          case rel => exact ⟨k + 1, C', orL G E, by omega, by go_num, rn, by unfold Hid; rw [orL_len HGE.out]; exact hGl.out, by
            unfold Hid
            intro j
            rw [orL_at HGE.out, hG.out, hS.2 j, List.take_succ_eq_append_getElem hlt]
            constructor
            · rintro (⟨l, hl, h⟩ | h)
              · exact ⟨l, List.mem_append.2 (.inl hl), h⟩
              · exact ⟨x4[k], List.mem_append.2 (.inr (List.mem_singleton.2 rfl)), h⟩
            · rintro ⟨l, hl, h⟩
              rw [List.mem_append] at hl
              rcases hl with hl | hl
              · exact .inl ⟨l, hl, h⟩
              · obtain rfl : l = x4[k] := by simpa using hl
                exact .inr h, kc.but bq (by omega), (uw.trans uc).but bq (by omega)⟩
          case measure => simp [intOf]; omega
    · have hS : Hid (Set_ s.size (Ronce A s (x0, x1, x2, x3, x4)) F G) := by
        unfold Hid
        refine ⟨hGl.out, fun j => ?_⟩
        rw [hG.out, List.take_of_length_le (by omega)]
        constructor
        · rintro ⟨l, hl, i, hi, h⟩
          exact ⟨i, hi, (once_alts A s x0 x1 x2 x3 x4 a4 i j).2 ⟨l, hl, h⟩⟩
        · rintro ⟨i, hi, h⟩
          obtain ⟨l, hl, h⟩ := (once_alts A s x0 x1 x2 x3 x4 a4 i j).1 h
          exact ⟨l, hl, i, hi, h⟩
      have hr := rr.sr (lo := w.heap.size) (c := s.size + 1) (by omega) (by rw [hGl.out]; exact Nat.le_refl _) (by unfold maxLen; omega)
      go_wp2_with fail
      go_ret
      exact SetR.mk rfl hS.out hr uw
end
end Go.Proofs.Ytgdcdfpnogiciaa
