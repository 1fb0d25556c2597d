/-
  Matching, the program's side: contracts of (matcher).once.
-/
import Derived.Test.YtgdcdfpnogiciaaVl
namespace Go.Proofs.Ytgdcdfpnogiciaa
open Go.RowKit
set_option linter.unusedVariables false
set_option linter.unusedSimpArgs false
section
theorem app3 {a b c : Value} : (#[a] ++ #[b, c] : Array Value) = #[a, b, c] := rfl
variable {γ : Type} {shQq : Sh γ} (A : List γ → Nat → Nat → Prop) (s : ByteArray)
variable (x0 x1 : Int) (x2 x3 : ByteArray) (x4 : List (List γ))

set_option maxRecDepth 100000 in
set_option maxHeartbeats 4000000 in
theorem vi_onceCodes (good_Qq : Good shQq) (hs : s.size ≤ 64) (a4 : x4.length = 0) (a3 : x3 = ⟨#[]⟩) (a2 : ¬ x2 = ⟨#[]⟩) (ha : risesV x2)
    (v : Value) (F : List Bool) (B : Option Addr) (d : Nat) (w : World) (h : AV (shPattern shQq) w v (x0, x1, x2, x3, x4)) (hF : SRW shB w B d F) (hl : F.length = s.size + 1) :
    Calls Try.prog 86 #[.agg #[.string s], v, .slice B F.length d] w (SetR s.size (Ronce A s (x0, x1, x2, x3, x4)) F w) := by
  obtain ⟨cs, rfl, h⟩ := h
  have ho := openPattern h
  dsimp only at ho
  obtain ⟨A4, c4, rfl, b0, b1, b2, b3, b4⟩ := ho
  have bm2 := b2; unfold maxLen at bm2
  have bm3 := b3; unfold maxLen at bm3
  have bl4 := b4.len_le
  have flen : F.length < 100 := by omega
  have hmk := fun W => run_make_bools F.length (by omega) (F.length : Int) rfl W
  obtain ⟨C0, hC0⟩ : ∃ C0, C0 = madeCells #[.bool false] F.length := ⟨_, rfl⟩
  simp only [← hC0] at hmk
  have km : Bk (((w.alloc (.cells #[.string s] 74)).alloc (.cells #[.int .i64 x0, .int .i64 x1, .string x2, .string x3, .slice A4 x4.length c4] 51)).alloc (.cells C0 4)) w.heap.size 74 #[.string s] := ((Bk.new _ _ _).alloc _).alloc _
  have k1 : Bk (((w.alloc (.cells #[.string s] 74)).alloc (.cells #[.int .i64 x0, .int .i64 x1, .string x2, .string x3, .slice A4 x4.length c4] 51)).alloc (.cells C0 4)) (w.heap.size + 1) 51 #[.int .i64 x0, .int .i64 x1, .string x2, .string x3, .slice A4 x4.length c4] := by
    have e : (w.alloc (.cells #[.string s] 74)).heap.size = w.heap.size + 1 := by simp
    have := (Bk.new (w.alloc (.cells #[.string s] 74)) 51 #[.int .i64 x0, .int .i64 x1, .string x2, .string x3, .slice A4 x4.length c4]).alloc (.cells C0 4)
    rw [e] at this
    exact this
  have u1 : Up w (((w.alloc (.cells #[.string s] 74)).alloc (.cells #[.int .i64 x0, .int .i64 x1, .string x2, .string x3, .slice A4 x4.length c4] 51)).alloc (.cells C0 4)) := (((Up.refl _).alloc _).alloc _).alloc _
  have r1 : RowB (((w.alloc (.cells #[.string s] 74)).alloc (.cells #[.int .i64 x0, .int .i64 x1, .string x2, .string x3, .slice A4 x4.length c4] 51)).alloc (.cells C0 4)) (w.heap.size + 1 + 1) 0 4 C0 (List.replicate F.length false) := by
    have e : ((w.alloc (.cells #[.string s] 74)).alloc (.cells #[.int .i64 x0, .int .i64 x1, .string x2, .string x3, .slice A4 x4.length c4] 51)).heap.size = w.heap.size + 1 + 1 := by simp
    have := RowB.made ((w.alloc (.cells #[.string s] 74)).alloc (.cells #[.int .i64 x0, .int .i64 x1, .string x2, .string x3, .slice A4 x4.length c4] 51)) F.length 4
    rw [e, ← hC0] at this
    exact this
  clear hC0
  have HL := Lib.hid hl; clear hl
  have A4h := Lib.hid a4; clear a4
  have A3h := Lib.hid (show x3.size = 0 by rw [a3]; rfl)
  obtain ⟨s1, s2, s3⟩ := str_some a2
  obtain ⟨t1, t2, t3⟩ := str_empty a3
  clear a2 a3 t3
  have hal : ∀ (i : Nat) (h : i < x2.size), x2[i].toNat < 128 := fun i h => code_small (ha i h).1
  have HA := Lib.hid hal
  clear hal ha
  go_enter Try.func86, Try.ntmps86
  go_wp2_with fail
  go_loopw [17] (fun i wr => ∃ (k : Nat) (C : Array Value) (G : List Bool), k ≤ F.length ∧ i = .int .i64 k ∧ RowB wr (w.heap.size + 1 + 1) 0 4 C G ∧ Hid (G.length = s.size + 1) ∧ Hid (∀ j : Nat, G[j]? = some true ↔ Upto (Ronce A s (x0, x1, x2, x3, x4)) F k j) ∧ Bk wr w.heap.size 74 #[.string s] ∧ Bk wr (w.heap.size + 1) 51 #[.int .i64 x0, .int .i64 x1, .string x2, .string x3, .slice A4 x4.length c4] ∧ Up w wr) (fun i _ => F.length - (intOf i).toNat)
  case atStart => exact ⟨0, C0, _, by omega, rfl, r1, by unfold Hid; simp; exact HL.out, by
    unfold Hid
    intro j
    exact ⟨fun hj => absurd hj (repl_false _ j), fun h => absurd h (Upto_zero _ _ _)⟩, km, k1, u1⟩
  case round =>
    obtain ⟨k, C, G, hk, rfl, rr, hGl, hG, kM, kk, uw⟩ := hrel
    by_cases hlt : k < F.length
    · obtain ⟨g, off, rfl, _, _, hc0⟩ := (hF.upB uw).at_B hlt
      have hks : k ≤ s.size := by have := HL.out; omega
      have hFs' : s.size + 1 ≤ F.length := by have := HL.out; omega
      have hGs : G.length ≤ s.size + 1 := by have := hGl.out; omega
      have hGs' : s.size + 1 ≤ G.length := by have := hGl.out; omega
      obtain ⟨x, hx⟩ := at_of_lt hlt
      have hxx : F[k] = x := by rw [List.getElem?_eq_getElem hlt] at hx; injection hx
      rw [hxx] at hc0
      have HX := Lib.hid hx
      clear hxx hx
      have ua : Up wr (wr.alloc (.cells #[.int .i64 (k : Int)] 3)) := (Up.refl _).alloc _
      have ra := rr.up ua
      have kMa := kM.up ua
      have ka := kk.up ua
      have kat : Bk (wr.alloc (.cells #[.int .i64 (k : Int)] 3)) wr.heap.size 3 #[.int .i64 (k : Int)] := Bk.new _ _ _
      have fm : (wr.alloc (.cells #[.int .i64 (k : Int)] 3)).cell? ⟨w.heap.size, 0, none⟩ = some (.string s) := kMa.cell 0
      have f2 : (wr.alloc (.cells #[.int .i64 (k : Int)] 3)).cell? ⟨w.heap.size + 1, 2, none⟩ = some (.string x2) := ka.cell 2
      have f3 : (wr.alloc (.cells #[.int .i64 (k : Int)] 3)).cell? ⟨w.heap.size + 1, 3, none⟩ = some (.string x3) := ka.cell 3
      have f4 : (wr.alloc (.cells #[.int .i64 (k : Int)] 3)).cell? ⟨w.heap.size + 1, 4, none⟩ = some (.slice A4 x4.length c4) := ka.cell 4
      have glt := kk.lt
      have rlt := rr.1.lt
      cases x
      · have hN : Hid (∀ j : Nat, G[j]? = some true ↔ Upto (Ronce A s (x0, x1, x2, x3, x4)) F (k + 1) j) := by
          unfold Hid
          intro j
          rw [hG.out, Upto_no (by rw [HX.out]; simp)]
        go_wp2_with fail
        go_roundw
        case rel => exact ⟨k + 1, C, G, by omega, by go_num, ra, hGl, hN, kMa, ka, uw.trans ua⟩
        case measure => simp [intOf]; omega
      · by_cases hks2 : k < s.size
        · have hki : (k : Int) < (s.size : Int) := by omega
          have CF := Lib.hid (vc_sContainsFunc 105 #[.pointer (some ⟨w.heap.size, 0, none⟩), .pointer (some ⟨wr.heap.size, 0, none⟩)] eg_once1 (fun c => inCodeV c s[k]) x2 (wr.alloc (.cells #[.int .i64 (k : Int)] 3)) b2 HA.out (fun W c hW => by
            rw [app3]
            exact vc_once1 c w.heap.size wr.heap.size s k W hs ((kMa.up hW).cell 0) ((kat.up hW).cell 0) hks2))
          go_wp2_with fail
          refine CF.out.mono ?_
          rintro e wc ⟨bb, rfl, hbb, uc⟩
          have rc := ra.up uc
          have kMc := kMa.up uc
          have kc := ka.up uc
          have katc := kat.up uc
          have uwc := (uw.trans ua).trans uc
          have g2 : wc.cell? ⟨wr.heap.size, 0, none⟩ = some (.int .i64 (k : Int)) := katc.cell 0
          rcases eqb_cases hbb with ⟨rfl, hno⟩ | ⟨rfl, hyes⟩
          · have hN : Hid (∀ j : Nat, G[j]? = some true ↔ Upto (Ronce A s (x0, x1, x2, x3, x4)) F (k + 1) j) := by
              unfold Hid
              intro j
              rw [hG.out, Upto_yes HX.out, once_codes A s x0 x1 x2 x3 x4 A4h.out A3h.out]
              constructor
              · exact .inl
              · rintro (h | ⟨_, _, h⟩)
                · exact h
                · exact absurd h hno
            clear hno hbb
            go_wp2_with fail
            go_roundw
            case rel => exact ⟨k + 1, C, G, by omega, by go_num, rc, hGl, hN, kMc, kc, uwc⟩
            case measure => simp [intOf]; omega
          · have hN : Hid (∀ j : Nat, (G.set (k + 1) true)[j]? = some true ↔ Upto (Ronce A s (x0, x1, x2, x3, x4)) F (k + 1) j) := by
              unfold Hid
              intro j
              rw [set_true (by omega), hG.out, Upto_yes HX.out, once_codes A s x0 x1 x2 x3 x4 A4h.out A3h.out]
              constructor
              · rintro (h | h)
                · exact .inl h
                · exact .inr ⟨h, hks2, hyes⟩
              · rintro (h | ⟨h, _⟩)
                · exact .inl h
                · exact .inr h
            have hN2 : Hid ((G.set (k + 1) true).length = s.size + 1) := by unfold Hid; rw [List.length_set]; exact hGl.out
            obtain ⟨y, hy⟩ := at_of_lt (show k + 1 < G.length by omega)
            have m1 := rc.cell0 hy
            have m2 := rc.1.frozen (k + 1)
            have rn := rc.set0 (i := k + 1) (by omega) true
            clear hyes hbb hy
            go_wp2_with fail
            go_roundw
            case rel => exact ⟨k + 1, _, _, by omega, by go_num, rn, hN2, hN, kMc.far (by simp; omega) _, kc.far (by simp) _, uwc.setCell (by simp; omega) _⟩
            case measure => simp [intOf]; omega
        · have hki : ¬ (k : Int) < (s.size : Int) := by omega
          have hkd : decide ((k : Int) < (s.size : Int)) = false := decide_eq_false hki
          have hkd2 : decide (k < s.size) = false := decide_eq_false hks2
          have hN : Hid (∀ j : Nat, G[j]? = some true ↔ Upto (Ronce A s (x0, x1, x2, x3, x4)) F (k + 1) j) := by
            unfold Hid
            intro j
            rw [hG.out, Upto_yes HX.out, once_codes A s x0 x1 x2 x3 x4 A4h.out A3h.out]
            constructor
            · exact .inl
            · rintro (h | ⟨_, h, _⟩)
              · exact h
              · exact absurd h hks2
          go_wp2_with fail
          go_roundw
          case rel => exact ⟨k + 1, C, G, by omega, by go_num, ra, hGl, hN, kMa, ka, uw.trans ua⟩
          case measure => simp [intOf]; omega
    · have hS : Hid (Set_ s.size (Ronce A s (x0, x1, x2, x3, x4)) F G) := by
        unfold Hid
        exact ⟨hGl.out, fun j => (hG.out j).trans (Upto_all (by omega) j)⟩
      have hr := rr.sr (lo := w.heap.size) (c := F.length) (by omega) (by rw [hGl.out, HL.out]; exact Nat.le_refl _) (by unfold maxLen; omega)
      have hk2 : F.length ≤ k := by omega
      have f4 : wr.cell? ⟨w.heap.size + 1, 4, none⟩ = some (.slice A4 x4.length c4) := kk.cell 4
      have a4i : ¬ (0 : Int) < (x4.length : Int) := by have := A4h.out; omega
      have a4d : decide ((0 : Int) < (x4.length : Int)) = false := decide_eq_false a4i
      have a4n : decide (0 < x4.length) = false := decide_eq_false (by omega)
      obtain ⟨wo, rfl⟩ : ∃ wo : World, wo = wr := ⟨_, rfl⟩
      go_wp2_with fail
      go_loopw [66] (fun i wr => i = .int .i64 0 ∧ wr = wo) (fun i _ => 0)
      case atStart => exact ⟨rfl, rfl⟩
      case round =>
        obtain ⟨rfl, rfl⟩ := hrel
        go_wp2_with fail
        go_ret
        exact SetR.mk HL.out hS.out hr uw

set_option maxRecDepth 100000 in
set_option maxHeartbeats 4000000 in
theorem vi_onceText (good_Qq : Good shQq) (hs : s.size ≤ 64) (a4 : x4.length = 0) (a2 : x2 = ⟨#[]⟩) (a3 : ¬ x3 = ⟨#[]⟩) (t24 : x3.size ≤ 24)
    (v : Value) (F : List Bool) (B : Option Addr) (d : Nat) (w : World) (h : AV (shPattern shQq) w v (x0, x1, x2, x3, x4)) (hF : SRW shB w B d F) (hl : F.length = s.size + 1) :
    Calls Try.prog 86 #[.agg #[.string s], v, .slice B F.length d] w (SetR s.size (Ronce A s (x0, x1, x2, x3, x4)) F w) := by
  obtain ⟨cs, rfl, h⟩ := h
  have ho := openPattern h
  dsimp only at ho
  obtain ⟨A4, c4, rfl, b0, b1, b2, b3, b4⟩ := ho
  have bm2 := b2; unfold maxLen at bm2
  have bm3 := b3; unfold maxLen at bm3
  have bl4 := b4.len_le
  have flen : F.length < 100 := by omega
  have hmk := fun W => run_make_bools F.length (by omega) (F.length : Int) rfl W
  obtain ⟨C0, hC0⟩ : ∃ C0, C0 = madeCells #[.bool false] F.length := ⟨_, rfl⟩
  simp only [← hC0] at hmk
  have km : Bk (((w.alloc (.cells #[.string s] 74)).alloc (.cells #[.int .i64 x0, .int .i64 x1, .string x2, .string x3, .slice A4 x4.length c4] 51)).alloc (.cells C0 4)) w.heap.size 74 #[.string s] := ((Bk.new _ _ _).alloc _).alloc _
  have k1 : Bk (((w.alloc (.cells #[.string s] 74)).alloc (.cells #[.int .i64 x0, .int .i64 x1, .string x2, .string x3, .slice A4 x4.length c4] 51)).alloc (.cells C0 4)) (w.heap.size + 1) 51 #[.int .i64 x0, .int .i64 x1, .string x2, .string x3, .slice A4 x4.length c4] := by
    have e : (w.alloc (.cells #[.string s] 74)).heap.size = w.heap.size + 1 := by simp
    have := (Bk.new (w.alloc (.cells #[.string s] 74)) 51 #[.int .i64 x0, .int .i64 x1, .string x2, .string x3, .slice A4 x4.length c4]).alloc (.cells C0 4)
    rw [e] at this
    exact this
  have u1 : Up w (((w.alloc (.cells #[.string s] 74)).alloc (.cells #[.int .i64 x0, .int .i64 x1, .string x2, .string x3, .slice A4 x4.length c4] 51)).alloc (.cells C0 4)) := (((Up.refl _).alloc _).alloc _).alloc _
  have r1 : RowB (((w.alloc (.cells #[.string s] 74)).alloc (.cells #[.int .i64 x0, .int .i64 x1, .string x2, .string x3, .slice A4 x4.length c4] 51)).alloc (.cells C0 4)) (w.heap.size + 1 + 1) 0 4 C0 (List.replicate F.length false) := by
    have e : ((w.alloc (.cells #[.string s] 74)).alloc (.cells #[.int .i64 x0, .int .i64 x1, .string x2, .string x3, .slice A4 x4.length c4] 51)).heap.size = w.heap.size + 1 + 1 := by simp
    have := RowB.made ((w.alloc (.cells #[.string s] 74)).alloc (.cells #[.int .i64 x0, .int .i64 x1, .string x2, .string x3, .slice A4 x4.length c4] 51)) F.length 4
    rw [e, ← hC0] at this
    exact this
  clear hC0
  have HL := Lib.hid hl; clear hl
  have A4h := Lib.hid a4; clear a4
  obtain ⟨s1, s2, s3⟩ := str_empty a2
  obtain ⟨t1, t2, t3⟩ := str_some a3
  clear a2 a3 s3
  go_enter Try.func86, Try.ntmps86
  go_wp2_with fail
  go_loopw [17] (fun i wr => ∃ (k : Nat) (C : Array Value) (G : List Bool), k ≤ F.length ∧ i = .int .i64 k ∧ RowB wr (w.heap.size + 1 + 1) 0 4 C G ∧ Hid (G.length = s.size + 1) ∧ Hid (∀ j : Nat, G[j]? = some true ↔ Upto (Ronce A s (x0, x1, x2, x3, x4)) F k j) ∧ Bk wr w.heap.size 74 #[.string s] ∧ Bk wr (w.heap.size + 1) 51 #[.int .i64 x0, .int .i64 x1, .string x2, .string x3, .slice A4 x4.length c4] ∧ Up w wr) (fun i _ => F.length - (intOf i).toNat)
  case atStart => exact ⟨0, C0, _, by omega, rfl, r1, by unfold Hid; simp; exact HL.out, by
    unfold Hid
    intro j
    exact ⟨fun hj => absurd hj (repl_false _ j), fun h => absurd h (Upto_zero _ _ _)⟩, km, k1, u1⟩
  case round =>
    obtain ⟨k, C, G, hk, rfl, rr, hGl, hG, kM, kk, uw⟩ := hrel
    by_cases hlt : k < F.length
    · obtain ⟨g, off, rfl, _, _, hc0⟩ := (hF.upB uw).at_B hlt
      have hks : k ≤ s.size := by have := HL.out; omega
      have hFs' : s.size + 1 ≤ F.length := by have := HL.out; omega
      have hGs : G.length ≤ s.size + 1 := by have := hGl.out; omega
      have hGs' : s.size + 1 ≤ G.length := by have := hGl.out; omega
      obtain ⟨x, hx⟩ := at_of_lt hlt
      have hxx : F[k] = x := by rw [List.getElem?_eq_getElem hlt] at hx; injection hx
      rw [hxx] at hc0
      have HX := Lib.hid hx
      clear hxx hx
      have ua : Up wr (wr.alloc (.cells #[.int .i64 (k : Int)] 3)) := (Up.refl _).alloc _
      have ra := rr.up ua
      have kMa := kM.up ua
      have ka := kk.up ua
      have kat : Bk (wr.alloc (.cells #[.int .i64 (k : Int)] 3)) wr.heap.size 3 #[.int .i64 (k : Int)] := Bk.new _ _ _
      have fm : (wr.alloc (.cells #[.int .i64 (k : Int)] 3)).cell? ⟨w.heap.size, 0, none⟩ = some (.string s) := kMa.cell 0
      have f2 : (wr.alloc (.cells #[.int .i64 (k : Int)] 3)).cell? ⟨w.heap.size + 1, 2, none⟩ = some (.string x2) := ka.cell 2
      have f3 : (wr.alloc (.cells #[.int .i64 (k : Int)] 3)).cell? ⟨w.heap.size + 1, 3, none⟩ = some (.string x3) := ka.cell 3
      have f4 : (wr.alloc (.cells #[.int .i64 (k : Int)] 3)).cell? ⟨w.heap.size + 1, 4, none⟩ = some (.slice A4 x4.length c4) := ka.cell 4
      have glt := kk.lt
      have rlt := rr.1.lt
      cases x
      · have hN : Hid (∀ j : Nat, G[j]? = some true ↔ Upto (Ronce A s (x0, x1, x2, x3, x4)) F (k + 1) j) := by
          unfold Hid
          intro j
          rw [hG.out, Upto_no (by rw [HX.out]; simp)]
        go_wp2_with fail
        go_roundw
        case rel => exact ⟨k + 1, C, G, by omega, by go_num, ra, hGl, hN, kMa, ka, uw.trans ua⟩
        case measure => simp [intOf]; omega
      · have fat : (wr.alloc (.cells #[.int .i64 (k : Int)] 3)).cell? ⟨wr.heap.size, 0, none⟩ = some (.int .i64 (k : Int)) := kat.cell 0
        have hki : (k : Int) ≤ (s.size : Int) := by omega
        cases hq : Lib.hasPrefix (s.extract k s.size).data.toList x3.data.toList
        · have hN : Hid (∀ j : Nat, G[j]? = some true ↔ Upto (Ronce A s (x0, x1, x2, x3, x4)) F (k + 1) j) := by
            unfold Hid
            intro j
            rw [hG.out, Upto_yes HX.out, once_text A s x0 x1 x2 x3 x4 A4h.out t3]
            constructor
            · exact .inl
            · rintro (h | ⟨rfl, h1, h2⟩)
              · exact h
              · rw [(hp_iff s x3 k hks).2 ⟨h1, h2⟩] at hq; cases hq
          have HQ := Lib.hid hq; clear hq
          go_wp2_with fail
          go_quiet ((go_at_call 107; exact Calls.quiet_of_same ((Try.strings_HasPrefix (s.extract k s.size) x3 _).mono (fun _ _ h => ⟨by rw [h.1, HQ.out], h.2⟩))))
          go_wp2_with fail
          go_roundw
          case rel => exact ⟨k + 1, C, G, by omega, by go_num, ra, hGl, hN, kMa, ka, (uw.trans ua).drewN nq⟩
          case measure => simp [intOf]; omega
        · obtain ⟨hin, he⟩ := (hp_iff s x3 k hks).1 hq
          have hN : Hid (∀ j : Nat, (G.set (k + x3.size) true)[j]? = some true ↔ Upto (Ronce A s (x0, x1, x2, x3, x4)) F (k + 1) j) := by
            unfold Hid
            intro j
            rw [set_true (by omega), hG.out, Upto_yes HX.out, once_text A s x0 x1 x2 x3 x4 A4h.out t3]
            constructor
            · rintro (h | rfl)
              · exact .inl h
              · exact .inr ⟨rfl, hin, he⟩
            · rintro (h | ⟨h, _⟩)
              · exact .inl h
              · exact .inr h
          have hN2 : Hid ((G.set (k + x3.size) true).length = s.size + 1) := by unfold Hid; rw [List.length_set]; exact hGl.out
          have HQ := Lib.hid hq; clear hq he
          go_wp2_with fail
          go_quiet ((go_at_call 107; exact Calls.quiet_of_same ((Try.strings_HasPrefix (s.extract k s.size) x3 _).mono (fun _ _ h => ⟨by rw [h.1, HQ.out], h.2⟩))))
          obtain ⟨y, hy⟩ := at_of_lt (show k + x3.size < G.length by omega)
          have rd : RowB ((wr.alloc (.cells #[.int .i64 (k : Int)] 3)).drewN nq) (w.heap.size + 1 + 1) 0 4 C G := ra
          have m1 := rd.cell0 hy
          have m2 := rd.1.frozen (k + x3.size)
          have rn := rd.set0 (i := k + x3.size) (by omega) true
          clear hy
          go_wp2_with fail
          go_roundw
          case rel => exact ⟨k + 1, _, _, by omega, by go_num, rn, hN2, hN, (kMa.drewN nq).far (by simp; omega) _, (ka.drewN nq).far (by simp) _, ((uw.trans ua).drewN nq).setCell (by simp; omega) _⟩
          case measure => simp [intOf]; omega
    · have hS : Hid (Set_ s.size (Ronce A s (x0, x1, x2, x3, x4)) F G) := by
        unfold Hid
        exact ⟨hGl.out, fun j => (hG.out j).trans (Upto_all (by omega) j)⟩
      have hr := rr.sr (lo := w.heap.size) (c := F.length) (by omega) (by rw [hGl.out, HL.out]; exact Nat.le_refl _) (by unfold maxLen; omega)
      have hk2 : F.length ≤ k := by omega
      have f4 : wr.cell? ⟨w.heap.size + 1, 4, none⟩ = some (.slice A4 x4.length c4) := kk.cell 4
      have a4i : ¬ (0 : Int) < (x4.length : Int) := by have := A4h.out; omega
      have a4d : decide ((0 : Int) < (x4.length : Int)) = false := decide_eq_false a4i
      have a4n : decide (0 < x4.length) = false := decide_eq_false (by omega)
      obtain ⟨wo, rfl⟩ : ∃ wo : World, wo = wr := ⟨_, rfl⟩
      go_wp2_with fail
      go_loopw [66] (fun i wr => i = .int .i64 0 ∧ wr = wo) (fun i _ => 0)
      case atStart => exact ⟨rfl, rfl⟩
      case round =>
        obtain ⟨rfl, rfl⟩ := hrel
        go_wp2_with fail
        go_ret
        exact SetR.mk HL.out hS.out hr uw

set_option maxRecDepth 100000 in
set_option maxHeartbeats 4000000 in
theorem vi_onceAlts (good_Qq : Good shQq) (hs : s.size ≤ 64) (a4 : 0 < x4.length) (a2 : x2 = ⟨#[]⟩) (a3 : x3 = ⟨#[]⟩)
    (cE : ∀ (l : List γ) (Ad : Option Addr) (c : Nat) (F : List Bool) (B : Option Addr) (d : Nat) (w : World), l ∈ x4 → SRW shQq w Ad c l → SRW shB w B d F → F.length = s.size + 1 → Calls Try.prog 39 #[.agg #[.string s], .slice Ad l.length c, .slice B F.length d] w (SetR s.size (A l) F w))
    (v : Value) (F : List Bool) (B : Option Addr) (d : Nat) (w : World) (h : AV (shPattern shQq) w v (x0, x1, x2, x3, x4)) (hF : SRW shB w B d F) (hl : F.length = s.size + 1) :
    Calls Try.prog 86 #[.agg #[.string s], v, .slice B F.length d] w (SetR s.size (Ronce A s (x0, x1, x2, x3, x4)) F w) := by
  have HE := Lib.hid cE; clear cE
  obtain ⟨cs, rfl, h⟩ := h
  have ho := openPattern h
  dsimp only at ho
  obtain ⟨A4, c4, rfl, b0, b1, b2, b3, b4⟩ := ho
  have bm2 := b2; unfold maxLen at bm2
  have bm3 := b3; unfold maxLen at bm3
  have bl4 := b4.len_le
  have flen : F.length < 100 := by omega
  have hmk := fun W => run_make_bools F.length (by omega) (F.length : Int) rfl W
  obtain ⟨C0, hC0⟩ : ∃ C0, C0 = madeCells #[.bool false] F.length := ⟨_, rfl⟩
  simp only [← hC0] at hmk
  have km : Bk (((w.alloc (.cells #[.string s] 74)).alloc (.cells #[.int .i64 x0, .int .i64 x1, .string x2, .string x3, .slice A4 x4.length c4] 51)).alloc (.cells C0 4)) w.heap.size 74 #[.string s] := ((Bk.new _ _ _).alloc _).alloc _
  have k1 : Bk (((w.alloc (.cells #[.string s] 74)).alloc (.cells #[.int .i64 x0, .int .i64 x1, .string x2, .string x3, .slice A4 x4.length c4] 51)).alloc (.cells C0 4)) (w.heap.size + 1) 51 #[.int .i64 x0, .int .i64 x1, .string x2, .string x3, .slice A4 x4.length c4] := by
    have e : (w.alloc (.cells #[.string s] 74)).heap.size = w.heap.size + 1 := by simp
    have := (Bk.new (w.alloc (.cells #[.string s] 74)) 51 #[.int .i64 x0, .int .i64 x1, .string x2, .string x3, .slice A4 x4.length c4]).alloc (.cells C0 4)
    rw [e] at this
    exact this
  have u1 : Up w (((w.alloc (.cells #[.string s] 74)).alloc (.cells #[.int .i64 x0, .int .i64 x1, .string x2, .string x3, .slice A4 x4.length c4] 51)).alloc (.cells C0 4)) := (((Up.refl _).alloc _).alloc _).alloc _
  have r1 : RowB (((w.alloc (.cells #[.string s] 74)).alloc (.cells #[.int .i64 x0, .int .i64 x1, .string x2, .string x3, .slice A4 x4.length c4] 51)).alloc (.cells C0 4)) (w.heap.size + 1 + 1) 0 4 C0 (List.replicate F.length false) := by
    have e : ((w.alloc (.cells #[.string s] 74)).alloc (.cells #[.int .i64 x0, .int .i64 x1, .string x2, .string x3, .slice A4 x4.length c4] 51)).heap.size = w.heap.size + 1 + 1 := by simp
    have := RowB.made ((w.alloc (.cells #[.string s] 74)).alloc (.cells #[.int .i64 x0, .int .i64 x1, .string x2, .string x3, .slice A4 x4.length c4] 51)) F.length 4
    rw [e, ← hC0] at this
    exact this
  clear hC0
  have HL := Lib.hid hl; clear hl
  have a4i : (0 : Int) < (x4.length : Int) := by omega
  obtain ⟨s1, s2, s3⟩ := str_empty a2
  obtain ⟨t1, t2, t3⟩ := str_empty a3
  clear a2 a3 s3 t3
  go_enter Try.func86, Try.ntmps86
  go_wp2_with fail
  go_loopw [17] (fun i wr => ∃ (k : Nat) (C : Array Value), k ≤ F.length ∧ i = .int .i64 k ∧ RowB wr (w.heap.size + 1 + 1) 0 4 C (List.replicate F.length false) ∧ Bk wr w.heap.size 74 #[.string s] ∧ Bk wr (w.heap.size + 1) 51 #[.int .i64 x0, .int .i64 x1, .string x2, .string x3, .slice A4 x4.length c4] ∧ Up w wr) (fun i _ => F.length - (intOf i).toNat)
  case atStart => exact ⟨0, C0, by omega, rfl, r1, km, k1, u1⟩
  case round =>
    obtain ⟨k, C, hk, rfl, rr, kM, kk, uw⟩ := hrel
    by_cases hlt : k < F.length
    · obtain ⟨g, off, rfl, _, _, hc0⟩ := (hF.upB uw).at_B hlt
      obtain ⟨x, hxx⟩ : ∃ x, F[k] = x := ⟨_, rfl⟩
      rw [hxx] at hc0
      clear hxx
      have ua : Up wr (wr.alloc (.cells #[.int .i64 (k : Int)] 3)) := (Up.refl _).alloc _
      have ra := rr.up ua
      have kMa := kM.up ua
      have ka := kk.up ua
      have f2 : (wr.alloc (.cells #[.int .i64 (k : Int)] 3)).cell? ⟨w.heap.size + 1, 2, none⟩ = some (.string x2) := ka.cell 2
      have f3 : (wr.alloc (.cells #[.int .i64 (k : Int)] 3)).cell? ⟨w.heap.size + 1, 3, none⟩ = some (.string x3) := ka.cell 3
      have glt := kk.lt
      cases x
      all_goals
        go_wp2_with fail
        go_roundw
        case rel => exact ⟨k + 1, C, by omega, by go_num, ra, kMa, ka, uw.trans ua⟩
        case measure => simp [intOf]; omega
    · have f4 : wr.cell? ⟨w.heap.size + 1, 4, none⟩ = some (.slice A4 x4.length c4) := kk.cell 4
      have hkF : F.length ≤ k := by omega
      obtain ⟨wo, rfl⟩ : ∃ wo : World, wo = wr := ⟨_, rfl⟩
      go_wp2_with fail
      go_loopw [66] (fun i wr => ∃ (k : Nat) (C : Array Value) (G : List Bool), k ≤ x4.length ∧ i = .int .i64 k ∧ RowB wr (w.heap.size + 1 + 1) 0 4 C G ∧ Hid (G.length = F.length) ∧ Hid (∀ j : Nat, G[j]? = some true ↔ ∃ l ∈ x4.take k, Img (A l) F j) ∧ Bk wr w.heap.size 74 #[.string s] ∧ Bk wr (w.heap.size + 1) 51 #[.int .i64 x0, .int .i64 x1, .string x2, .string x3, .slice A4 x4.length c4] ∧ Up w wr) (fun i _ => x4.length - (intOf i).toNat)
      case atStart => exact ⟨0, C, _, by omega, rfl, rr, by unfold Hid; simp, by
        unfold Hid
        intro j
        constructor
        · intro hj; exact absurd hj (repl_false _ j)
        · rintro ⟨l, hl, _⟩; simp at hl, kM, kk, uw⟩
      case round =>
        clear hk hkF rr kM kk uw f4
        obtain ⟨k, C, G, hk, rfl, rr, hGl, hG, kM, kk, uw⟩ := hrel
        by_cases hlt2 : k < x4.length
        · obtain ⟨g, off, A1, c1, rfl, _, _, hc0, l0⟩ := (b4.up (good_L good_Qq) uw).at_L hlt2
          have fm : wr.cell? ⟨w.heap.size, 0, none⟩ = some (.string s) := kM.cell 0
          go_wp2_with fail
          refine (HE.out x4[k] A1 c1 F B d _ (List.getElem_mem hlt2) l0 (hF.upB uw) HL.out).mono ?_
          rintro e wc ⟨D, dc, E, rfl, hE, hS, uc⟩
          have rc := rr.up uc
          have kc := kk.up uc
          have kMc := kM.up uc
          have glt := rr.1.lt
          have HGE : Hid (G.length = E.length) := by unfold Hid; rw [hGl.out, hS.1]; exact HL.out
          have hGn : G.length ≤ 100 := by have := hGl.out; omega
          have cj := vc_join (w.heap.size + 1 + 1) 0 4 C G E D F.length dc wr.heap.size wc.heap.size wc HGE.out hGn rc hE glt
          rw [hGl.out] at cj
          have CJ := Lib.hid cj; clear cj
          clear fm hc0 l0
          go_wp2_with fail
          refine CJ.out.mono ?_
          rintro e wj ⟨bj, Cj, rfl, hbut, rj, _⟩
          have hN : Hid (∀ j : Nat, (orL G E)[j]? = some true ↔ ∃ l ∈ x4.take (k + 1), Img (A l) F j) := by
            unfold Hid
            intro j
            rw [orL_at HGE.out, hG.out, hS.2 j, List.take_succ_eq_append_getElem hlt2]
            constructor
            · rintro (⟨l, hl, h⟩ | h)
              · exact ⟨l, List.mem_append.2 (.inl hl), h⟩
              · exact ⟨x4[k], List.mem_append.2 (.inr (List.mem_singleton.2 rfl)), h⟩
            · rintro ⟨l, hl, h⟩
              rw [List.mem_append] at hl
              rcases hl with hl | hl
              · exact .inl ⟨l, hl, h⟩
              · obtain rfl : l = x4[k] := by simpa using hl
                exact .inr h
          go_wp2_with fail
          go_roundw
          case rel => exact ⟨k + 1, Cj, orL G E, by omega, by go_num, rj, by unfold Hid; rw [orL_len HGE.out]; exact hGl.out, hN, kMc.but hbut (by omega), kc.but hbut (by omega), (uw.trans uc).but hbut (by omega)⟩
          case measure => simp [intOf]; omega
        · have hS : Hid (Set_ s.size (Ronce A s (x0, x1, x2, x3, x4)) F G) := by
            unfold Hid
            refine ⟨hGl.out.trans HL.out, fun j => ?_⟩
            rw [hG.out, List.take_of_length_le (by omega)]
            constructor
            · rintro ⟨l, hl, i, hi, h⟩
              exact ⟨i, hi, (once_alts A s x0 x1 x2 x3 x4 a4 i j).2 ⟨l, hl, h⟩⟩
            · rintro ⟨i, hi, h⟩
              obtain ⟨l, hl, h⟩ := (once_alts A s x0 x1 x2 x3 x4 a4 i j).1 h
              exact ⟨l, hl, i, hi, h⟩
          have hr := rr.sr (lo := w.heap.size) (c := F.length) (by omega) (by rw [hGl.out]; exact Nat.le_refl _) (by unfold maxLen; omega)
          go_wp2_with fail
          go_ret
          exact SetR.mk HL.out hS.out hr uw

end
end Go.Proofs.Ytgdcdfpnogiciaa
