/-
  Matching: contracts of the reference's l04Once at texts and at codes.
-/
import Derived.Test.YtgdcdfpnogiciaaVi
namespace Go.Proofs.Ytgdcdfpnogiciaa
open Go.RowKit
set_option linter.unusedVariables false
set_option linter.unusedSimpArgs false
section
variable {γ : Type} {shQq : Sh γ} (A : List γ → Nat → Nat → Prop) (s : ByteArray)
variable (x0 x1 : Int) (x2 x3 : ByteArray) (x4 : List (List γ))

set_option maxRecDepth 100000 in
set_option maxHeartbeats 4000000 in
theorem vc_onceText (good_Qq : Good shQq) (hs : s.size ≤ 64) (a4 : x4.length = 0) (a3 : 0 < x3.size) (t24 : x3.size ≤ 24)
    (v : Value) (F : List Bool) (B : Option Addr) (d : Nat) (w : World) (h : AV (shPattern shQq) w v (x0, x1, x2, x3, x4)) (hF : SRW shB w B d F) (hl : F.length = s.size + 1) :
    Calls Try.prog 80 #[.string s, v, .slice B F.length d] w (SetR s.size (Ronce A s (x0, x1, x2, x3, x4)) F w) := by
  obtain ⟨cs, rfl, h⟩ := h
  have ho := openPattern h
  dsimp only at ho
  obtain ⟨A4, c4, rfl, b0, b1, b2, b3, b4⟩ := ho
  have bm2 := b2; unfold maxLen at bm2
  have bm3 := b3; unfold maxLen at bm3
  have bl4 := b4.len_le
  have flen : F.length < 100 := by omega
  have hmk := fun W => run_make_bools (s.size + 1) (by omega) ((s.size : Int) + 1) (by omega) W
  obtain ⟨C0, hC0⟩ : ∃ C0, C0 = madeCells #[.bool false] (s.size + 1) := ⟨_, rfl⟩
  simp only [← hC0] at hmk
  have k1 : Bk ((w.alloc (.cells #[.int .i64 x0, .int .i64 x1, .string x2, .string x3, .slice A4 x4.length c4] 51)).alloc (.cells C0 4)) w.heap.size 51 #[.int .i64 x0, .int .i64 x1, .string x2, .string x3, .slice A4 x4.length c4] := (Bk.new _ _ _).alloc _
  have u1 : Up w ((w.alloc (.cells #[.int .i64 x0, .int .i64 x1, .string x2, .string x3, .slice A4 x4.length c4] 51)).alloc (.cells C0 4)) := ((Up.refl _).alloc _).alloc _
  have r1 : RowB ((w.alloc (.cells #[.int .i64 x0, .int .i64 x1, .string x2, .string x3, .slice A4 x4.length c4] 51)).alloc (.cells C0 4)) (w.heap.size + 1) 0 4 C0 (List.replicate (s.size + 1) false) := by
    have e : (w.alloc (.cells #[.int .i64 x0, .int .i64 x1, .string x2, .string x3, .slice A4 x4.length c4] 51)).heap.size = w.heap.size + 1 := by simp
    have := RowB.made (w.alloc (.cells #[.int .i64 x0, .int .i64 x1, .string x2, .string x3, .slice A4 x4.length c4] 51)) (s.size + 1) 4
    rw [e, ← hC0] at this
    exact this
  clear hC0
  have g4 : ((w.alloc (.cells #[.int .i64 x0, .int .i64 x1, .string x2, .string x3, .slice A4 x4.length c4] 51)).alloc (.cells C0 4)).cell? ⟨w.heap.size, 4, none⟩ = some (.slice A4 x4.length c4) := k1.cell 4
  have a4i : ¬ (0 : Int) < (x4.length : Int) := by omega
  have a4d : decide ((0 : Int) < (x4.length : Int)) = false := decide_eq_false a4i
  have a3i : (0 : Int) < (x3.size : Int) := by omega
  have HL := Lib.hid hl; clear hl
  have A4h := Lib.hid a4; clear a4
  go_enter Try.func80, Try.ntmps80
  go_wp2_with fail
  go_loopw [11] (fun i wr => ∃ (k : Nat) (C : Array Value) (G : List Bool), k ≤ F.length ∧ i = .int .i64 k ∧ RowB wr (w.heap.size + 1) 0 4 C G ∧ Hid (G.length = s.size + 1) ∧ Hid (∀ j : Nat, G[j]? = some true ↔ Upto (Ronce A s (x0, x1, x2, x3, x4)) F k j) ∧ Bk wr w.heap.size 51 #[.int .i64 x0, .int .i64 x1, .string x2, .string x3, .slice A4 x4.length c4] ∧ Up w wr) (fun i _ => F.length - (intOf i).toNat)
  case atStart => exact ⟨0, C0, _, by omega, rfl, r1, by unfold Hid; simp, by
    unfold Hid
    intro j
    exact ⟨fun hj => absurd hj (repl_false _ j), fun h => absurd h (Upto_zero _ _ _)⟩, k1, u1⟩
  case round =>
    obtain ⟨k, C, G, hk, rfl, rr, hGl, hG, kk, uw⟩ := hrel
    have f2 : wr.cell? ⟨w.heap.size, 2, none⟩ = some (.string x2) := kk.cell 2
    have f3 : wr.cell? ⟨w.heap.size, 3, none⟩ = some (.string x3) := kk.cell 3
    by_cases hlt : k < F.length
    · obtain ⟨g, off, rfl, _, _, hc0⟩ := (hF.upB uw).at_B hlt
      have hks : k ≤ s.size := by have := HL.out; omega
      have hGs : G.length ≤ s.size + 1 := by have := hGl.out; omega
      have hGs' : s.size + 1 ≤ G.length := by have := hGl.out; omega
      obtain ⟨x, hx⟩ := at_of_lt hlt
      have hxx : F[k] = x := by rw [List.getElem?_eq_getElem hlt] at hx; injection hx
      rw [hxx] at hc0
      have HX := Lib.hid hx
      clear hxx hx
      cases x
      · have hN : Hid (∀ j : Nat, G[j]? = some true ↔ Upto (Ronce A s (x0, x1, x2, x3, x4)) F (k + 1) j) := by
          unfold Hid
          intro j
          rw [hG.out, Upto_no (by rw [HX.out]; simp)]
        go_wp2_with fail
        go_roundw
        case rel => exact ⟨k + 1, C, G, by omega, by go_num, rr, hGl, hN, kk, uw⟩
        case measure => simp [intOf]; omega
      · have e1 : IntKind.i64.wrap ((k : Int) + (x3.size : Int)) = (k : Int) + (x3.size : Int) := IntWalk.i64_in _ ⟨by omega, by omega⟩
        by_cases hin : k + x3.size ≤ s.size
        · have e2 : (k : Int) + (x3.size : Int) ≤ (s.size : Int) := by omega
          have e2n : decide (k + x3.size ≤ s.size) = true := by simpa using hin
          have e2d : decide ((k : Int) + (x3.size : Int) ≤ (s.size : Int)) = true := by simpa using e2
          have e3 : (0 : Int) ≤ (k : Int) + (x3.size : Int) := by omega
          have e4 : ((k : Int) + (x3.size : Int)).toNat = k + x3.size := by omega
          have e5 : (k : Int) ≤ (k : Int) + (x3.size : Int) := by omega
          by_cases he : s.extract k (k + x3.size) = x3
          · have hx : ((s.extract k (k + x3.size)).toList == x3.toList) = true := by rw [str_beq]; simp [he]
            have hN : Hid (∀ j : Nat, (G.set (k + x3.size) true)[j]? = some true ↔ Upto (Ronce A s (x0, x1, x2, x3, x4)) F (k + 1) j) := by
              unfold Hid
              intro j
              rw [set_true (by omega), hG.out, Upto_yes HX.out, once_text A s x0 x1 x2 x3 x4 A4h.out a3]
              constructor
              · rintro (h | rfl)
                · exact .inl h
                · exact .inr ⟨rfl, hin, he⟩
              · rintro (h | ⟨h, _⟩)
                · exact .inl h
                · exact .inr h
            have hN2 : Hid ((G.set (k + x3.size) true).length = s.size + 1) := by unfold Hid; rw [List.length_set]; exact hGl.out
            have HEq := Lib.hid he; clear he
            go_wp2_with fail
            go_quiet (fail)
            clear e1 e3 e4
            obtain ⟨y, hy⟩ := at_of_lt (show k + x3.size < G.length by omega)
            have rd : RowB (wr.drewN nq) (w.heap.size + 1) 0 4 C G := rr
            have m1 := rd.cell0 hy
            have m2 := rd.1.frozen (k + x3.size)
            have rn := rd.set0 (i := k + x3.size) (by omega) true
            go_wp2_with fail
            go_roundw
            case rel => exact ⟨k + 1, _, _, by omega, by go_num, rn, hN2, hN, (kk.drewN nq).far (by simp) _, (uw.drewN nq).setCell (by simp) _⟩
            case measure => simp [intOf]; omega
          · have hx : ((s.extract k (k + x3.size)).toList == x3.toList) = false := by rw [str_beq]; simp [he]
            have hN : Hid (∀ j : Nat, G[j]? = some true ↔ Upto (Ronce A s (x0, x1, x2, x3, x4)) F (k + 1) j) := by
              unfold Hid
              intro j
              rw [hG.out, Upto_yes HX.out, once_text A s x0 x1 x2 x3 x4 A4h.out a3]
              constructor
              · exact .inl
              · rintro (h | ⟨rfl, _, h⟩)
                · exact h
                · exact absurd h he
            have HEq := Lib.hid he; clear he
            go_wp2_with fail
            go_quiet (fail)
            clear e1 e3 e4
            go_wp2_with fail
            go_roundw
            case rel => exact ⟨k + 1, C, G, by omega, by go_num, rr, hGl, hN, kk, uw.drewN nq⟩
            case measure => simp [intOf]; omega
        · have e2 : ¬ (k : Int) + (x3.size : Int) ≤ (s.size : Int) := by omega
          have e2n : decide (k + x3.size ≤ s.size) = false := by simpa using hin
          have e2d : decide ((k : Int) + (x3.size : Int) ≤ (s.size : Int)) = false := by simpa using e2
          have hN : Hid (∀ j : Nat, G[j]? = some true ↔ Upto (Ronce A s (x0, x1, x2, x3, x4)) F (k + 1) j) := by
            unfold Hid
            intro j
            rw [hG.out, Upto_yes HX.out, once_text A s x0 x1 x2 x3 x4 A4h.out a3]
            constructor
            · exact .inl
            · rintro (h | ⟨rfl, h, _⟩)
              · exact h
              · exact absurd h hin
          go_wp2_with fail
          go_quiet (fail)
          clear e1
          go_wp2_with fail
          go_roundw
          case rel => exact ⟨k + 1, C, G, by omega, by go_num, rr, hGl, hN, kk, uw.drewN nq⟩
          case measure => simp [intOf]; omega
    · have hS : Hid (Set_ s.size (Ronce A s (x0, x1, x2, x3, x4)) F G) := by
        unfold Hid
        exact ⟨hGl.out, fun j => (hG.out j).trans (Upto_all (by omega) j)⟩
      have hr := rr.sr (lo := w.heap.size) (c := s.size + 1) (by omega) (by rw [hGl.out]; exact Nat.le_refl _) (by unfold maxLen; omega)
      have hk2 : F.length ≤ k := by omega
      go_wp2_with fail
      go_ret
      exact SetR.mk rfl hS.out hr uw

/-- What the codes before q say of a byte. -/
def codesTo (x2 : ByteArray) (c : UInt8) (q : Nat) : Prop := ∃ (p : Nat) (hp : p < x2.size), p < q ∧ inCodeV x2[p] c = true
set_option maxRecDepth 100000 in
set_option maxHeartbeats 4000000 in
theorem vc_onceCodes (good_Qq : Good shQq) (hs : s.size ≤ 64) (a4 : x4.length = 0) (a3 : x3.size = 0)
    (v : Value) (F : List Bool) (B : Option Addr) (d : Nat) (w : World) (h : AV (shPattern shQq) w v (x0, x1, x2, x3, x4)) (hF : SRW shB w B d F) (hl : F.length = s.size + 1) :
    Calls Try.prog 80 #[.string s, v, .slice B F.length d] w (SetR s.size (Ronce A s (x0, x1, x2, x3, x4)) F w) := by
  obtain ⟨cs, rfl, h⟩ := h
  have ho := openPattern h
  dsimp only at ho
  obtain ⟨A4, c4, rfl, b0, b1, b2, b3, b4⟩ := ho
  have bm2 := b2; unfold maxLen at bm2
  have bm3 := b3; unfold maxLen at bm3
  have bl4 := b4.len_le
  have flen : F.length < 100 := by omega
  have hmk := fun W => run_make_bools (s.size + 1) (by omega) ((s.size : Int) + 1) (by omega) W
  obtain ⟨C0, hC0⟩ : ∃ C0, C0 = madeCells #[.bool false] (s.size + 1) := ⟨_, rfl⟩
  simp only [← hC0] at hmk
  have k1 : Bk ((w.alloc (.cells #[.int .i64 x0, .int .i64 x1, .string x2, .string x3, .slice A4 x4.length c4] 51)).alloc (.cells C0 4)) w.heap.size 51 #[.int .i64 x0, .int .i64 x1, .string x2, .string x3, .slice A4 x4.length c4] := (Bk.new _ _ _).alloc _
  have u1 : Up w ((w.alloc (.cells #[.int .i64 x0, .int .i64 x1, .string x2, .string x3, .slice A4 x4.length c4] 51)).alloc (.cells C0 4)) := ((Up.refl _).alloc _).alloc _
  have r1 : RowB ((w.alloc (.cells #[.int .i64 x0, .int .i64 x1, .string x2, .string x3, .slice A4 x4.length c4] 51)).alloc (.cells C0 4)) (w.heap.size + 1) 0 4 C0 (List.replicate (s.size + 1) false) := by
    have e : (w.alloc (.cells #[.int .i64 x0, .int .i64 x1, .string x2, .string x3, .slice A4 x4.length c4] 51)).heap.size = w.heap.size + 1 := by simp
    have := RowB.made (w.alloc (.cells #[.int .i64 x0, .int .i64 x1, .string x2, .string x3, .slice A4 x4.length c4] 51)) (s.size + 1) 4
    rw [e, ← hC0] at this
    exact this
  clear hC0
  have g4 : ((w.alloc (.cells #[.int .i64 x0, .int .i64 x1, .string x2, .string x3, .slice A4 x4.length c4] 51)).alloc (.cells C0 4)).cell? ⟨w.heap.size, 4, none⟩ = some (.slice A4 x4.length c4) := k1.cell 4
  have a4i : ¬ (0 : Int) < (x4.length : Int) := by omega
  have a4d : decide ((0 : Int) < (x4.length : Int)) = false := decide_eq_false a4i
  have a3i : ¬ (0 : Int) < (x3.size : Int) := by omega
  have a3d : decide ((0 : Int) < (x3.size : Int)) = false := decide_eq_false a3i
  have HL := Lib.hid hl; clear hl
  have A4h := Lib.hid a4; clear a4
  have A3h := Lib.hid a3; clear a3
  go_enter Try.func80, Try.ntmps80
  go_wp2_with fail
  go_loopw [11] (fun i wr => ∃ (k : Nat) (C : Array Value) (G : List Bool), k ≤ F.length ∧ i = .int .i64 k ∧ RowB wr (w.heap.size + 1) 0 4 C G ∧ Hid (G.length = s.size + 1) ∧ Hid (∀ j : Nat, G[j]? = some true ↔ Upto (Ronce A s (x0, x1, x2, x3, x4)) F k j) ∧ Bk wr w.heap.size 51 #[.int .i64 x0, .int .i64 x1, .string x2, .string x3, .slice A4 x4.length c4] ∧ Up w wr) (fun i _ => F.length - (intOf i).toNat)
  case atStart => exact ⟨0, C0, _, by omega, rfl, r1, by unfold Hid; simp, by
    unfold Hid
    intro j
    exact ⟨fun hj => absurd hj (repl_false _ j), fun h => absurd h (Upto_zero _ _ _)⟩, k1, u1⟩
  case round =>
    obtain ⟨k, C, G, hk, rfl, rr, hGl, hG, kk, uw⟩ := hrel
    have f2 : wr.cell? ⟨w.heap.size, 2, none⟩ = some (.string x2) := kk.cell 2
    have f3 : wr.cell? ⟨w.heap.size, 3, none⟩ = some (.string x3) := kk.cell 3
    by_cases hlt : k < F.length
    · obtain ⟨g, off, rfl, _, _, hc0⟩ := (hF.upB uw).at_B hlt
      have hks : k ≤ s.size := by have := HL.out; omega
      have hGs : G.length ≤ s.size + 1 := by have := hGl.out; omega
      have hGs' : s.size + 1 ≤ G.length := by have := hGl.out; omega
      obtain ⟨x, hx⟩ := at_of_lt hlt
      have hxx : F[k] = x := by rw [List.getElem?_eq_getElem hlt] at hx; injection hx
      rw [hxx] at hc0
      have HX := Lib.hid hx
      clear hxx hx
      cases x
      · have hN : Hid (∀ j : Nat, G[j]? = some true ↔ Upto (Ronce A s (x0, x1, x2, x3, x4)) F (k + 1) j) := by
          unfold Hid
          intro j
          rw [hG.out, Upto_no (by rw [HX.out]; simp)]
        go_wp2_with fail
        go_roundw
        case rel => exact ⟨k + 1, C, G, by omega, by go_num, rr, hGl, hN, kk, uw⟩
        case measure => simp [intOf]; omega
      · by_cases hks2 : k < s.size
        · obtain ⟨wo, rfl⟩ : ∃ wo : World, wo = wr := ⟨_, rfl⟩
          go_wp2_with fail
          go_loopw [13] (fun i wr => ∃ (q : Nat) (C' : Array Value) (G' : List Bool), q ≤ x2.size ∧ i = .int .i64 q ∧ RowB wr (w.heap.size + 1) 0 4 C' G' ∧ Hid (G'.length = s.size + 1) ∧ Hid (∀ j : Nat, G'[j]? = some true ↔ (G[j]? = some true ∨ (j = k + 1 ∧ codesTo x2 s[k] q))) ∧ Bk wr w.heap.size 51 #[.int .i64 x0, .int .i64 x1, .string x2, .string x3, .slice A4 x4.length c4] ∧ Up w wr) (fun i _ => x2.size - (intOf i).toNat)
          case atStart => exact ⟨0, C, G, by omega, rfl, rr, hGl, by
            unfold Hid
            intro j
            constructor
            · exact .inl
            · rintro (h | ⟨_, p, _, hp, _⟩)
              · exact h
              · omega, kk, uw⟩
          case round =>
            obtain ⟨q, C', G', hq, rfl, rq, hGl', hG', kq, uq⟩ := hrel
            have f2 : wr.cell? ⟨w.heap.size, 2, none⟩ = some (.string x2) := kq.cell 2
            have f3 : wr.cell? ⟨w.heap.size, 3, none⟩ = some (.string x3) := kq.cell 3
            have hGs2 : s.size + 1 ≤ G'.length := by have := hGl'.out; omega
            by_cases hql : q < x2.size
            · cases hin : inCodeV x2[q] s[k]
              · have hN : Hid (∀ j : Nat, G'[j]? = some true ↔ (G[j]? = some true ∨ (j = k + 1 ∧ codesTo x2 s[k] (q + 1)))) := by
                  unfold Hid
                  intro j
                  rw [hG'.out]
                  constructor
                  · rintro (h | ⟨h, p, hp, hpq, hpc⟩)
                    · exact .inl h
                    · exact .inr ⟨h, p, hp, by omega, hpc⟩
                  · rintro (h | ⟨h, p, hp, hpq, hpc⟩)
                    · exact .inl h
                    · by_cases e : p = q
                      · subst e; rw [hin] at hpc; cases hpc
                      · exact .inr ⟨h, p, hp, by omega, hpc⟩
                have HI := Lib.hid hin; clear hin
                go_wp2_with fail
                go_quiet ((go_at_call 101; exact Calls.quiet_of_same ((vc_l04In x2[q] s[k] _).mono (fun _ _ h => ⟨by rw [h.1, HI.out], h.2.symm⟩))))
                go_wp2_with fail
                go_roundw
                case rel => exact ⟨q + 1, C', G', by omega, by go_num, rq, hGl', hN, kq, uq.drewN nq⟩
                case measure => simp [intOf]; omega
              · have hN : Hid (∀ j : Nat, (G'.set (k + 1) true)[j]? = some true ↔ (G[j]? = some true ∨ (j = k + 1 ∧ codesTo x2 s[k] (q + 1)))) := by
                  unfold Hid
                  intro j
                  rw [set_true (by omega), hG'.out]
                  constructor
                  · rintro ((h | ⟨h, p, hp, hpq, hpc⟩) | h)
                    · exact .inl h
                    · exact .inr ⟨h, p, hp, by omega, hpc⟩
                    · exact .inr ⟨h, q, hql, by omega, hin⟩
                  · rintro (h | ⟨h, _⟩)
                    · exact .inl (.inl h)
                    · exact .inr h
                have hN2 : Hid ((G'.set (k + 1) true).length = s.size + 1) := by unfold Hid; rw [List.length_set]; exact hGl'.out
                have HI := Lib.hid hin; clear hin
                go_wp2_with fail
                go_quiet ((go_at_call 101; exact Calls.quiet_of_same ((vc_l04In x2[q] s[k] _).mono (fun _ _ h => ⟨by rw [h.1, HI.out], h.2.symm⟩))))
                obtain ⟨y, hy⟩ := at_of_lt (show k + 1 < G'.length by omega)
                have rd : RowB (wr.drewN nq) (w.heap.size + 1) 0 4 C' G' := rq
                have m1 := rd.cell0 hy
                have m2 := rd.1.frozen (k + 1)
                have rn := rd.set0 (i := k + 1) (by omega) true
                go_wp2_with fail
                go_roundw
                case rel => exact ⟨q + 1, _, _, by omega, by go_num, rn, hN2, hN, (kq.drewN nq).far (by simp) _, (uq.drewN nq).setCell (by simp) _⟩
                case measure => simp [intOf]; omega
            · have hN : Hid (∀ j : Nat, G'[j]? = some true ↔ Upto (Ronce A s (x0, x1, x2, x3, x4)) F (k + 1) j) := by
                unfold Hid
                intro j
                rw [hG'.out, hG.out, Upto_yes HX.out, once_codes A s x0 x1 x2 x3 x4 A4h.out A3h.out]
                constructor
                · rintro (h | ⟨h, p, hp, hpq, hpc⟩)
                  · exact .inl h
                  · exact .inr ⟨h, hks2, p, hp, hpc⟩
                · rintro (h | ⟨h, _, p, hp, hpc⟩)
                  · exact .inl h
                  · exact .inr ⟨h, p, hp, by omega, hpc⟩
              have hqd : decide (q < x2.size) = false := by simpa using hql
              go_wp2_with fail
              go_roundw
              case rel => exact ⟨k + 1, C', G', by omega, by go_num, rq, hGl', hN, kq, uq⟩
              case measure => simp [intOf]; omega
        · have hN : Hid (∀ j : Nat, G[j]? = some true ↔ Upto (Ronce A s (x0, x1, x2, x3, x4)) F (k + 1) j) := by
            unfold Hid
            intro j
            rw [hG.out, Upto_yes HX.out, once_codes A s x0 x1 x2 x3 x4 A4h.out A3h.out]
            constructor
            · exact .inl
            · rintro (h | ⟨_, h, _⟩)
              · exact h
              · exact absurd h hks2
          have hkd : decide (k < s.size) = false := by simpa using hks2
          have hki : ¬ (k : Int) < (s.size : Int) := by omega
          obtain ⟨wo, rfl⟩ : ∃ wo : World, wo = wr := ⟨_, rfl⟩
          go_wp2_with fail
          go_loopw [13] (fun i wr => i = .int .i64 0 ∧ wr = wo) (fun i _ => 0)
          case atStart => exact ⟨rfl, rfl⟩
          case round =>
            obtain ⟨rfl, rfl⟩ := hrel
            by_cases h2 : 0 < x2.size
            · have h2i : (0 : Int) < (x2.size : Int) := by omega
              go_wp2_with fail
              go_roundw
              case rel => exact ⟨k + 1, C, G, by omega, by go_num, rr, hGl, hN, kk, uw⟩
              case measure => simp [intOf]; omega
            · have h2i : decide ((0 : Int) < (x2.size : Int)) = false := decide_eq_false (by omega)
              have h2n : decide (0 < x2.size) = false := by simpa using h2
              go_wp2_with fail
              go_roundw
              case rel => exact ⟨k + 1, C, G, by omega, by go_num, rr, hGl, hN, kk, uw⟩
              case measure => simp [intOf]; omega
    · have hS : Hid (Set_ s.size (Ronce A s (x0, x1, x2, x3, x4)) F G) := by
        unfold Hid
        exact ⟨hGl.out, fun j => (hG.out j).trans (Upto_all (by omega) j)⟩
      have hr := rr.sr (lo := w.heap.size) (c := s.size + 1) (by omega) (by rw [hGl.out]; exact Nat.le_refl _) (by unfold maxLen; omega)
      have hk2 : F.length ≤ k := by omega
      go_wp2_with fail
      go_ret
      exact SetR.mk rfl hS.out hr uw

end
end Go.Proofs.Ytgdcdfpnogiciaa
