/-
  MatchPattern, the program's side.
-/
import Derived.Test.YtgdcdfpnogiciaaVn
namespace Go.Proofs.Ytgdcdfpnogiciaa
open Go.RowKit
set_option linter.unusedVariables false
set_option linter.unusedSimpArgs false
/-- One item, whatever it is. -/
theorem vi_once {γ : Type} {shQq : Sh γ} (good_Qq : Good shQq) (okA : List γ → Int → Bool) (A : List γ → Nat → Nat → Prop) (s : ByteArray) (hs : s.size ≤ 64) (x : TPattern γ) (deep : Int) (hx : itemP okA x deep)
    (cE : ∀ (l : List γ) (Ad : Option Addr) (c : Nat) (F : List Bool) (B : Option Addr) (d : Nat) (w : World), okA l (deep - 1) = true → SRW shQq w Ad c l → SRW shB w B d F → F.length = s.size + 1 → Calls Try.prog 39 #[.agg #[.string s], .slice Ad l.length c, .slice B F.length d] w (SetR s.size (A l) F w))
    (v : Value) (F : List Bool) (B : Option Addr) (d : Nat) (w : World) (h : AV (shPattern shQq) w v x) (hF : SRW shB w B d F) (hl : F.length = s.size + 1) :
    Calls Try.prog 86 #[.agg #[.string s], v, .slice B F.length d] w (SetR s.size (Ronce A s x) F w) := by
  obtain ⟨x0, x1, x2, x3, x4⟩ := x
  obtain ⟨_, _, _, _, h5, _, hb⟩ := hx
  have h5 : x3.size ≤ 24 := h5
  unfold bodyP at hb
  by_cases a4 : 0 < x4.length
  · rw [if_pos a4] at hb
    exact vi_onceAlts A s x0 x1 x2 x3 x4 good_Qq hs a4 hb.1 hb.2.1 (fun l Ad c F B d w hl => cE l Ad c F B d w (hb.2.2.2 l hl)) v F B d w h hF hl
  · rw [if_neg a4] at hb
    by_cases a3 : x3 = ⟨#[]⟩
    · rw [if_neg (fun hh => hh a3)] at hb
      exact vi_onceCodes A s x0 x1 x2 x3 x4 good_Qq hs (by omega) a3 hb.1 hb.2 v F B d w h hF hl
    · rw [if_pos a3] at hb
      exact vi_onceText A s x0 x1 x2 x3 x4 good_Qq hs (by omega) hb a3 h5 v F B d w h hF hl

set_option maxRecDepth 100000 in
set_option maxHeartbeats 4000000 in
theorem vi_all {γ : Type} {shQq : Sh γ} (good_Qq : Good shQq) (I : TPattern γ → Nat → Nat → Prop) (s : ByteArray) (xs : List (TPattern γ)) (h1 : 1 ≤ xs.length)
    (A : Option Addr) (c : Nat) (F : List Bool) (B : Option Addr) (d : Nat) (w : World) (h : SRW (shPattern shQq) w A c xs) (hF : SRW shB w B d F) (hl : F.length = s.size + 1)
    (cI : ∀ (v : Value) (x : TPattern γ) (F : List Bool) (B : Option Addr) (d : Nat) (w : World), x ∈ xs → AV (shPattern shQq) w v x → SRW shB w B d F → F.length = s.size + 1 → Calls Try.prog 59 #[.agg #[.string s], v, .slice B F.length d] w (SetR s.size (I x) F w)) :
    Calls Try.prog 39 #[.agg #[.string s], .slice A xs.length c, .slice B F.length d] w (SetR s.size (Rall I xs) F w) := by
  have HI := Lib.hid cI; clear cI
  have hlen := h.len_le
  have HL := Lib.hid hl; clear hl
  have km0 : Bk (w.alloc (.cells #[.string s] 74)) w.heap.size 74 #[.string s] := Bk.new _ _ _
  have u0 : Up w (w.alloc (.cells #[.string s] 74)) := (Up.refl _).alloc _
  go_enter Try.func39, Try.ntmps39
  go_wp2_with fail
  go_loopw [2, 11] (fun cur i wr => ∃ (k : Nat) (G : List Bool) (D : Option Addr) (e : Nat), k ≤ xs.length ∧ i = .int .i64 k ∧ cur = .slice D G.length e ∧ SRW shB wr D e G ∧ Hid (0 < k → SR shB wr w.heap.size wr.heap.size D e G) ∧ Hid (Set_ s.size (Rall I (xs.take k)) F G) ∧ Bk wr w.heap.size 74 #[.string s] ∧ Up w wr) (fun _ i _ => xs.length - (intOf i).toNat)
  case atStart => exact ⟨0, F, B, d, by omega, rfl, rfl, hF.upB u0, fun h => absurd h (by omega), Set_.refl HL.out, km0, u0⟩
  case round =>
    obtain ⟨k, G, D, e, hk, rfl, rfl, hG, hN, hS, kM, hu⟩ := hrel
    by_cases hlt : k < xs.length
    · obtain ⟨g, off, A4, c4, rfl, _, _, hc0, hc1, hc2, hc3, hc4, b0, b1, b2, b3, b4, _⟩ := atPattern (h.up (good_Pattern good_Qq) hu) hlt
      obtain ⟨p0, p1, p2, p3, p4, hxk⟩ : ∃ (p0 p1 : Int) (p2 p3 : ByteArray) (p4 : List (List γ)), xs[k] = (p0, p1, p2, p3, p4) := ⟨_, _, _, _, _, rfl⟩
      have hmem := List.getElem_mem hlt
      rw [hxk] at hc0 hc1 hc2 hc3 hc4 b0 b1 b2 b3 b4 hmem
      dsimp only at hc0 hc1 hc2 hc3 hc4 b0 b1 b2 b3 b4
      have ua : Up wr (wr.alloc (.cells #[.int .i64 p0, .int .i64 p1, .string p2, .string p3, .slice A4 p4.length c4] 51)) := (Up.refl _).alloc _
      have ka : Bk (wr.alloc (.cells #[.int .i64 p0, .int .i64 p1, .string p2, .string p3, .slice A4 p4.length c4] 51)) wr.heap.size 51 #[.int .i64 p0, .int .i64 p1, .string p2, .string p3, .slice A4 p4.length c4] := Bk.new _ _ _
      have fm : (wr.alloc (.cells #[.int .i64 p0, .int .i64 p1, .string p2, .string p3, .slice A4 p4.length c4] 51)).cell? ⟨w.heap.size, 0, none⟩ = some (.string s) := (kM.up ua).cell 0
      have av : AV (shPattern shQq) (wr.alloc (.cells #[.int .i64 p0, .int .i64 p1, .string p2, .string p3, .slice A4 p4.length c4] 51)) (.agg #[.int .i64 p0, .int .i64 p1, .string p2, .string p3, .slice A4 p4.length c4]) (p0, p1, p2, p3, p4) := AV.up (good_Pattern good_Qq) ⟨_, rfl, mkPattern (x := (p0, p1, p2, p3, p4)) b0 b1 b2 b3 b4⟩ ua
      have CI := Lib.hid (HI.out _ (p0, p1, p2, p3, p4) G D e _ hmem av (hG.upB ua) hS.out.1)
      have HXK := Lib.hid hxk; clear hxk hmem
      go_wp2_with fail
      refine CI.out.mono ?_
      rintro e1 w1 ⟨D1, d1, G1, rfl, hG1, hS1, u1⟩
      have hN2 : Hid (Set_ s.size (Rall I (xs.take (k + 1))) F G1) := by
        unfold Hid
        rw [List.take_succ_eq_append_getElem hlt, HXK.out]
        exact hS.out.comp hS1 fun i j => Rall_snoc I _ _ i j
      have uw1 := (hu.trans ua).trans u1
      have hfr : SR shB w1 w.heap.size w1.heap.size D1 d1 G1 := SR.wide good_B hG1 (hu.trans ua).size (Nat.le_refl _)
      have kM1 := (kM.up ua).up u1
      clear hc0 hc1 hc2 hc3 hc4 fm
      go_wp2_with fail
      go_roundw
      case rel => exact ⟨k + 1, G1, D1, d1, by omega, by go_num, rfl, SR.wide good_B hG1 (Nat.zero_le _) (Nat.le_refl _), fun _ => hfr, hN2, kM1, uw1⟩
      case measure => simp [intOf]; omega
    · have hfin : Hid (Set_ s.size (Rall I xs) F G) := by
        have := hS.out
        rw [List.take_of_length_le (by omega)] at this
        exact this
      have hr := hN.out (by omega)
      go_wp2_with fail
      go_ret
      exact SetR.mk hfin.out.1 hfin.out hr hu

abbrev AllI (n : Nat) : Prop := ∀ (s : ByteArray), s.size ≤ 64 → ∀ (l : List (Pat n)) (deep : Int) (A : Option Addr) (c : Nat) (F : List Bool) (B : Option Addr) (d : Nat) (w : World), okPats n l deep = true → SRW (shPat n) w A c l → SRW shB w B d F → F.length = s.size + 1 →
    Calls Try.prog 39 #[.agg #[.string s], .slice A l.length c, .slice B F.length d] w (SetR s.size (Rpats n s l) F w)
theorem vi_allPats : ∀ n, AllI n
  | 0 => fun s hs l deep A c F B d w hok => by cases hok
  | n + 1 => fun s hs l deep A c F B d w hok h hF hl => by
    have hv := listV_t.1 (show listV (okPats n) l deep = true from hok)
    exact vi_all (good_Pat n) (RI (Rpats n s) s) s l hv.1 A c F B d w h hF hl (fun v x F B d w hx hav hF hl => by
      have hi := hv.2.2 x hx
      have ho := vi_once (good_Pat n) (okPats n) (Rpats n s) s hs x deep hi (fun l Ad c F B d w hl => vi_allPats n s hs l (deep - 1) Ad c F B d w hl)
      have hf : Fwd s.size (Ronce (Rpats n s) s x) := Ronce_fwd fun a _ => Rpats_fwd s n a
      obtain ⟨x0, x1, x2, x3, x4⟩ := x
      exact vi_item (good_Pat n) _ s hs hf x0 x1 x2 x3 x4 hi.1 hi.2.1 hi.2.2.1 hi.2.2.2.1 ho v F B d w hav hF hl)

set_option maxRecDepth 100000 in
set_option maxHeartbeats 4000000 in
theorem vi_matches (n : Nat) (s : ByteArray) (hs : s.size ≤ 64) (l : List (Pat n)) (deep : Int) (hok : okPats n l deep = true) (A : Option Addr) (c : Nat) (w : World) (h : SRW (shPat n) w A c l) :
    Calls Try.prog 24 #[.string s, .slice A l.length c] w (BoolQ (matchB n s l) w) := by
  have hmk := fun W => run_make_bools (s.size + 1) (by omega) ((s.size : Int) + 1) (by omega) W
  obtain ⟨C0, hC0⟩ : ∃ C0, C0 = madeCells #[.bool false] (s.size + 1) := ⟨_, rfl⟩
  simp only [← hC0] at hmk
  have r1 : RowB (w.alloc (.cells C0 4)) w.heap.size 0 4 C0 (List.replicate (s.size + 1) false) := by rw [hC0]; exact RowB.made _ _ _
  have r2 : RowB (w.alloc (.cells (C0.setIfInBounds 0 (.bool true)) 4)) w.heap.size 0 4 (C0.setIfInBounds 0 (.bool true)) (oneL s.size) := ⟨Bk.new _ _ _, (r1.set0 (i := 0) (by simp) true).2⟩
  have m1 : (w.alloc (.cells C0 4)).cell? ⟨w.heap.size, 0, none⟩ = some (.bool false) := r1.cell0 (by simp)
  have m2 := r1.1.frozen 0
  have u2 : Up w (w.alloc (.cells (C0.setIfInBounds 0 (.bool true)) 4)) := (Up.refl _).alloc _
  have h2 := r2.sr (lo := 0) (c := s.size + 1) (Nat.zero_le _) (by simp [oneL]) (by unfold maxLen; omega)
  have hol : (oneL s.size).length = s.size + 1 := by simp [oneL]
  have ce := vi_allPats n s hs l deep A c (oneL s.size) (some ⟨w.heap.size, 0, none⟩) (s.size + 1) _ hok (h.up (good_Pat n) u2) h2 hol
  rw [hol] at ce
  have CE := Lib.hid ce; clear ce
  clear hC0 hol hok r1
  go_enter Try.func24, Try.ntmps24
  go_wp2_with fail
  refine CE.out.mono ?_
  rintro e w1 ⟨D, d1, G, rfl, hG, hS, u1⟩
  have hGl : s.size < G.length := by have := hS.1; omega
  obtain ⟨g, off, rfl, _, _, hc⟩ := hG.at_B hGl
  have hGe := match_at hS
  rw [List.getElem?_eq_getElem hGl] at hGe
  injection hGe with hGe
  rw [hGe] at hc
  clear hGe hS
  go_wp2_with fail
  go_ret
  exact BoolQ.mk rfl (u2.trans u1)

set_option maxHeartbeats 1000000 in
theorem vi_MatchPattern (n : Nat) (s : ByteArray) (l : List (Pat n)) (A : Option Addr) (c : Nat) (w : World) (hm : s.size ≤ maxLen) (h : SRW (shPat n) w A c l) :
    Calls Try.prog 8 #[.string s, .slice A l.length c] w (BoolQ (decide (s.size ≤ 64) && okPats n l 3 && matchB n s l) w) := by
  unfold maxLen at hm
  have hlen := h.len_le
  have cr : ∀ w, SRW (shPat n) w A c l → Calls Try.prog 23 #[.slice A l.length c] w (BoolQ (okPats n l 3) w) := fun w h => by
    have CO := Lib.hid (vc_itemsPats n l A c 0 w h (by omega) (by omega))
    go_enter Try.func23, Try.ntmps23
    go_wp2_with fail
    refine CO.out.mono ?_
    rintro e w1 ⟨rfl, u1⟩
    go_wp2_with fail
    go_ret
    exact BoolQ.mk rfl u1
  have CR := Lib.hid cr; clear cr
  by_cases hs : s.size ≤ 64
  · have hsi : (s.size : Int) ≤ 64 := by omega
    cases hok : okPats n l 3
    · have HK := Lib.hid hok; clear hok
      go_enter Try.func8, Try.ntmps8
      go_wp2_with fail
      refine (CR.out _ h).mono ?_
      rintro e w1 ⟨rfl, u1⟩
      rw [HK.out]
      go_wp2_with fail
      go_ret
      exact BoolQ.mk (by simp) u1
    · have CM := Lib.hid (fun w h => vi_matches n s hs l 3 hok A c w h)
      have HK := Lib.hid hok; clear hok
      go_enter Try.func8, Try.ntmps8
      go_wp2_with fail
      refine (CR.out _ h).mono ?_
      rintro e w1 ⟨rfl, u1⟩
      rw [HK.out]
      go_wp2_with fail
      refine (CM.out _ (h.up (good_Pat n) u1)).mono ?_
      rintro e w2 ⟨rfl, u2⟩
      go_wp2_with fail
      go_ret
      exact BoolQ.mk (by simp [hs]) (u1.trans u2)
  · have hsi : ¬ (s.size : Int) ≤ 64 := by omega
    have hsd : decide ((s.size : Int) ≤ 64) = false := decide_eq_false hsi
    have HF : Hid (false = (decide (s.size ≤ 64) && okPats n l 3 && matchB n s l)) := by unfold Hid; simp [hs]
    generalize (decide (s.size ≤ 64) && okPats n l 3 && matchB n s l) = V at HF
    go_enter Try.func8, Try.ntmps8
    go_wp2_with fail
    go_ret
    exact BoolQ.mk HF.out (Up.refl _)
end Go.Proofs.Ytgdcdfpnogiciaa
