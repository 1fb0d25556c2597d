/-
  Patterns: a recursive struct, by its depth: shapes and the contracts of the laws' helpers sz, eq, to. By a program of ours (mkva.py).
-/
import Derived.Test.YtgdcdfpnogiciaaRows
import Derived.Test.YtgdcdfpnogiciaaTy
import Derived.Test.YtgdcdfpnogiciaaRep2
import Derived.StillTailTactics
namespace Go.Proofs.Ytgdcdfpnogiciaa
open Go.RowKit Go.ChangeShapes Go.WideShapes Go.Deep
set_option linter.unusedSimpArgs false
set_option linter.unusedVariables false

abbrev TPattern (γ : Type) : Type := Int × Int × ByteArray × ByteArray × (List (List γ))
def shPattern {γ : Type} (shQq : Sh γ) : Sh (TPattern γ) := (shP shI (shP shI (shP shS (shP shS (shL (shL shQq))))))
theorem good_Pattern {γ : Type} {shQq : Sh γ} (good_Qq : Good shQq) : Good (shPattern shQq) := (good_P good_I (good_P good_I (good_P good_S (good_P good_S (good_L (good_L good_Qq))))))
theorem openPattern {γ : Type} {shQq : Sh γ} {w : World} {lo hi : Nat} {cs : List Value} {x : (TPattern γ)} (h : (shPattern shQq).rep w lo hi cs x) :
    ∃ (A4 : Option Addr) (c4 : Nat), cs = [.int .i64 x.1, .int .i64 x.2.1, .string x.2.2.1, .string x.2.2.2.1, .slice A4 x.2.2.2.2.length c4] ∧ I64 x.1 ∧ I64 x.2.1 ∧ x.2.2.1.size ≤ maxLen ∧ x.2.2.2.1.size ≤ maxLen ∧ SR (shL shQq) w lo hi A4 c4 x.2.2.2.2 := by
  obtain ⟨p1, q1, rfl, l1, r1⟩ := open_P h
  obtain ⟨rfl, b0⟩ := l1
  obtain ⟨p2, q2, rfl, l2, r2⟩ := open_P r1
  obtain ⟨rfl, b1⟩ := l2
  obtain ⟨p3, q3, rfl, l3, r3⟩ := open_P r2
  obtain ⟨rfl, b2⟩ := l3
  obtain ⟨p4, q4, rfl, l4, r4⟩ := open_P r3
  obtain ⟨rfl, b3⟩ := l4
  obtain ⟨A4, c4, rfl, b4⟩ := r4
  exact ⟨A4, c4, rfl, b0, b1, b2, b3, b4⟩
theorem mkPattern {γ : Type} {shQq : Sh γ} {w : World} {lo hi : Nat} {x : (TPattern γ)} {A4 : Option Addr} {c4 : Nat} (b0 : I64 x.1) (b1 : I64 x.2.1) (b2 : x.2.2.1.size ≤ maxLen) (b3 : x.2.2.2.1.size ≤ maxLen) (b4 : SR (shL shQq) w lo hi A4 c4 x.2.2.2.2) : (shPattern shQq).rep w lo hi [.int .i64 x.1, .int .i64 x.2.1, .string x.2.2.1, .string x.2.2.2.1, .slice A4 x.2.2.2.2.length c4] x :=
  (mk_P good_I ⟨rfl, b0⟩ (mk_P good_I ⟨rfl, b1⟩ (mk_P good_S ⟨rfl, b2⟩ (mk_P good_S ⟨rfl, b3⟩ ⟨A4, c4, rfl, b4⟩))))
theorem openOPattern {γ : Type} {shQq : Sh γ} {w : World} {lo hi : Nat} {cs : List Value} {x : (TPattern γ)} {bl : List Nat} (h : (shPattern shQq).own w lo hi cs x bl) :
    ∃ (A4 : Option Addr) (c4 : Nat) (bl4 : List Nat), cs = [.int .i64 x.1, .int .i64 x.2.1, .string x.2.2.1, .string x.2.2.2.1, .slice A4 x.2.2.2.2.length c4] ∧ bl = bl4 ∧ I64 x.1 ∧ I64 x.2.1 ∧ x.2.2.1.size ≤ maxLen ∧ x.2.2.2.1.size ≤ maxLen ∧ SO (shL shQq) w lo hi A4 c4 x.2.2.2.2 bl4 := by
  obtain ⟨p1, q1, _, _, rfl, rfl, l1, r1⟩ := openO_P h
  obtain ⟨⟨rfl, b0⟩, rfl⟩ := l1
  obtain ⟨p2, q2, _, _, rfl, rfl, l2, r2⟩ := openO_P r1
  obtain ⟨⟨rfl, b1⟩, rfl⟩ := l2
  obtain ⟨p3, q3, _, _, rfl, rfl, l3, r3⟩ := openO_P r2
  obtain ⟨⟨rfl, b2⟩, rfl⟩ := l3
  obtain ⟨p4, q4, _, _, rfl, rfl, l4, r4⟩ := openO_P r3
  obtain ⟨⟨rfl, b3⟩, rfl⟩ := l4
  obtain ⟨A4, c4, rfl, b4⟩ := r4
  exact ⟨A4, c4, _, rfl, by simp, b0, b1, b2, b3, b4⟩
theorem mkOPattern {γ : Type} {shQq : Sh γ} {w : World} {lo hi : Nat} {x : (TPattern γ)} {A4 : Option Addr} {c4 : Nat} {bl4 : List Nat} (b0 : I64 x.1) (b1 : I64 x.2.1) (b2 : x.2.2.1.size ≤ maxLen) (b3 : x.2.2.2.1.size ≤ maxLen) (b4 : SO (shL shQq) w lo hi A4 c4 x.2.2.2.2 bl4) : (shPattern shQq).own w lo hi [.int .i64 x.1, .int .i64 x.2.1, .string x.2.2.1, .string x.2.2.2.1, .slice A4 x.2.2.2.2.length c4] x (bl4) := by
  have h : (shPattern shQq).own w lo hi [.int .i64 x.1, .int .i64 x.2.1, .string x.2.2.1, .string x.2.2.2.1, .slice A4 x.2.2.2.2.length c4] x _ := (mkO_P good_I ⟨⟨rfl, b0⟩, rfl⟩ (mkO_P good_I ⟨⟨rfl, b1⟩, rfl⟩ (mkO_P good_S ⟨⟨rfl, b2⟩, rfl⟩ (mkO_P good_S ⟨⟨rfl, b3⟩, rfl⟩ ⟨A4, c4, rfl, b4⟩))))
  simpa using h
theorem atPattern {γ : Type} {shQq : Sh γ} {w : World} {lo hi : Nat} {A : Option Addr} {c : Nat} {xs : List (TPattern γ)} (h : SR (shPattern shQq) w lo hi A c xs) {i : Nat} (hi' : i < xs.length) :
    ∃ (g off : Nat) (A4 : Option Addr) (c4 : Nat), A = some ⟨g, off, none⟩ ∧ lo ≤ g ∧ g < hi ∧ w.cell? ⟨g, off + i * 5, none⟩ = some (.int .i64 xs[i].1) ∧ w.cell? ⟨g, off + i * 5 + 1, none⟩ = some (.int .i64 xs[i].2.1) ∧ w.cell? ⟨g, off + i * 5 + 2, none⟩ = some (.string xs[i].2.2.1) ∧ w.cell? ⟨g, off + i * 5 + 3, none⟩ = some (.string xs[i].2.2.2.1) ∧ w.cell? ⟨g, off + i * 5 + 4, none⟩ = some (.slice A4 xs[i].2.2.2.2.length c4) ∧ I64 xs[i].1 ∧ I64 xs[i].2.1 ∧ xs[i].2.2.1.size ≤ maxLen ∧ xs[i].2.2.2.1.size ≤ maxLen ∧ SR (shL shQq) w lo hi A4 c4 xs[i].2.2.2.2 ∧ True := by
  obtain ⟨g, off, cs, hA, h1, h2, hc, hr⟩ := h.at_ hi'
  obtain ⟨A4, c4, rfl, b0, b1, b2, b3, b4⟩ := openPattern hr
  exact ⟨g, off, A4, c4, hA, h1, h2, hc.2 0 (by show _ < 5; decide), hc.2 1 (by show _ < 5; decide), hc.2 2 (by show _ < 5; decide), hc.2 3 (by show _ < 5; decide), hc.2 4 (by show _ < 5; decide), b0, b1, b2, b3, b4, trivial⟩
set_option maxHeartbeats 1000000 in
theorem c_szPattern {γ : Type} {shQq : Sh γ} (good_Qq : Good shQq) (c_szQqSS : ∀ (xs : List (List γ)) (A : Option Addr) (c : Nat) (left : Int) (w : World), SRW (shL shQq) w A c xs → 0 ≤ left → left ≤ 1048576 → Calls Try.prog 34 #[.slice A xs.length c, .int .i64 left] w (SzP left ((shL (shL shQq)).sz xs) w)) (v : Value) (x : (TPattern γ)) (left : Int) (w : World) (h : AV (shPattern shQq) w v x) (h0 : 0 ≤ left) (h1 : left ≤ 1048576) :
    Calls Try.prog 19 #[v, .int .i64 left] w (SzP left ((shPattern shQq).sz x) w) := by
  have HH := Lib.hid c_szQqSS; clear c_szQqSS
  obtain ⟨cs, rfl, h⟩ := h
  obtain ⟨x0, x1, x2, x3, x4⟩ := x
  have ho := openPattern h
  try dsimp only at ho
  obtain ⟨A4, c4, rfl, b0, b1, b2, b3, b4⟩ := ho
  have bm2 := b2; unfold maxLen at bm2
  have bm3 := b3; unfold maxLen at bm3
  have HS := Lib.hid (show (shPattern shQq).sz (x0, x1, x2, x3, x4) = 0 + (0 + (x2.size + (x3.size + ((shL (shL shQq)).sz x4)))) from rfl)
  have kk0 : Bk (w.alloc (.cells #[.int .i64 x0, .int .i64 x1, .string x2, .string x3, .slice A4 x4.length c4] 47)) w.heap.size 47 #[.int .i64 x0, .int .i64 x1, .string x2, .string x3, .slice A4 x4.length c4] := Bk.new _ _ _
  have uu0 : Up w (w.alloc (.cells #[.int .i64 x0, .int .i64 x1, .string x2, .string x3, .slice A4 x4.length c4] 47)) := (Up.refl _).alloc _
  go_enter Try.func19, Try.ntmps19
  go_wp2_with fail
  · go_ret
    exact SzP.no (by rw [HS.out]; omega) uu0
  · go_ret
    exact SzP.no (by rw [HS.out]; omega) uu0
  refine (HH.out _ _ _ _ _ (b4.up (good_L good_Qq) uu0) (by omega) (by omega)).mono ?_
  rintro e w1 ⟨rfl, u1⟩
  have uu1 := uu0.trans u1
  have kk1 := kk0.up u1
  have g1_4 : w1.cell? ⟨w.heap.size, 4, none⟩ = some (.slice A4 x4.length c4) := kk1.cell 4
  by_cases q2 : ¬ (((shL (shL shQq)).sz x4 : Nat) : Int) ≤ left - (x2.size : Nat) - (x3.size : Nat)
  · rw [szR_no (by omega)]
    go_wp2_with fail
    go_ret
    exact SzP.no (by rw [HS.out]; omega) uu1
  replace q2 := Decidable.of_not_not q2
  rw [szR_yes q2]
  go_wp2_with fail
  go_ret
  exact SzP.yes (by rw [HS.out]; omega) (by rw [HS.out] <;> omega) uu1
set_option maxHeartbeats 1000000 in
theorem c_szPatternS {γ : Type} {shQq : Sh γ} (good_Qq : Good shQq)  (xs : List (TPattern γ)) (A : Option Addr) (c : Nat) (left : Int) (w : World) (h : SRW (shPattern shQq) w A c xs) (h0 : 0 ≤ left) (h1 : left ≤ 1048576)
    (c_szPatternH : ∀ (v : Value) (x : (TPattern γ)) (left : Int) (w : World), x ∈ xs → AV (shPattern shQq) w v x → 0 ≤ left → left ≤ 1048576 → Calls Try.prog 19 #[v, .int .i64 left] w (SzP left ((shPattern shQq).sz x) w)) :
    Calls Try.prog 5 #[.slice A xs.length c, .int .i64 left] w (SzP left ((shL (shPattern shQq)).sz xs) w) := by
  have HH := Lib.hid c_szPatternH; clear c_szPatternH
  have hlen := h.len_le
  have HS := Lib.hid (show (shL (shPattern shQq)).sz xs = xs.length + (xs.map (shPattern shQq).sz).sum from rfl)
  go_enter Try.func5, Try.ntmps5
  go_wp2
  · go_ret
    exact SzP.no (by rw [HS.out]; omega) (Up.refl _)
  · go_loopw [1, 5] (fun l i wr => ∃ k : Nat, k ≤ xs.length ∧ i = .int .i64 k ∧ l = .int .i64 (left - xs.length - psum (shPattern shQq).sz xs k) ∧ (xs.length + psum (shPattern shQq).sz xs k : Int) ≤ left ∧ Up w wr) (fun _ i _ => xs.length - (intOf i).toNat)
    case atStart => exact ⟨0, Nat.zero_le _, rfl, by simp [psum_zero], by simp [psum_zero]; omega, Up.refl _⟩
    case round =>
      obtain ⟨k, hk, rfl, rfl, hp, hu⟩ := hrel
      by_cases hlt : k < xs.length
      · obtain ⟨g, off, A4, c4, rfl, _, _, hc0, hc1, hc2, hc3, hc4, b0, b1, b2, b3, b4, _⟩ := atPattern (h.up (good_Pattern good_Qq) hu) hlt
        have HP := Lib.hid (psum_succ (shPattern shQq).sz xs k hlt)
        have hle := psum_le (shPattern shQq).sz xs (k + 1)
        rw [HP.out] at hle
        go_wp2_with fail
        refine (HH.out _ xs[k] _ _ (List.getElem_mem hlt) ⟨_, rfl, mkPattern (x := xs[k]) b0 b1 b2 b3 b4⟩ (by omega) (by omega)).mono ?_
        rintro e w1 ⟨rfl, hu1⟩
        by_cases hq : ((shPattern shQq).sz xs[k] : Int) ≤ left - xs.length - psum (shPattern shQq).sz xs k
        · rw [szR_yes hq]
          go_wp2_with fail
          go_roundw
          case rel => exact ⟨k + 1, by omega, by go_num, by rw [HP.out]; go_num, by rw [HP.out]; omega, hu.trans hu1⟩
          case measure => simp [intOf]; omega
        · rw [szR_no (by omega)]
          go_wp2_with fail
          go_ret
          exact SzP.no (by rw [HS.out]; omega) (hu.trans hu1)
      · have HK := Lib.hid (show k = xs.length by omega)
        go_wp2_with fail
        go_ret
        exact SzP.yes (by rw [HS.out, ← psum_all, ← HK.out]; omega) (by rw [HS.out, ← psum_all, ← HK.out]; omega) hu

set_option maxHeartbeats 1000000 in
theorem c_eqPattern {γ : Type} {shQq : Sh γ} (good_Qq : Good shQq) (c_eqQqSS : ∀ (xs ys : List (List γ)) (A B : Option Addr) (c d : Nat) (w : World), SRW (shL shQq) w A c xs → SRW (shL shQq) w B d ys → Calls Try.prog 40 #[.slice A xs.length c, .slice B ys.length d] w (EqP (xs = ys) w)) (v u : Value) (x y : (TPattern γ)) (w : World) (h : AV (shPattern shQq) w v x) (k : AV (shPattern shQq) w u y) :
    Calls Try.prog 25 #[v, u] w (EqP (x = y) w) := by
  have HH := Lib.hid c_eqQqSS; clear c_eqQqSS
  obtain ⟨cs, rfl, h⟩ := h
  obtain ⟨x0, x1, x2, x3, x4⟩ := x
  have ho := openPattern h
  try dsimp only at ho
  obtain ⟨A4, c4, rfl, b0, b1, b2, b3, b4⟩ := ho
  obtain ⟨ds, rfl, k⟩ := k
  obtain ⟨y0, y1, y2, y3, y4⟩ := y
  have ko := openPattern k
  try dsimp only at ko
  obtain ⟨B4, d4, rfl, e0, e1, e2, e3, e4⟩ := ko
  have kx0 : Bk ((w.alloc (.cells #[.int .i64 x0, .int .i64 x1, .string x2, .string x3, .slice A4 x4.length c4] 51)).alloc (.cells #[.int .i64 y0, .int .i64 y1, .string y2, .string y3, .slice B4 y4.length d4] 51)) w.heap.size 51 #[.int .i64 x0, .int .i64 x1, .string x2, .string x3, .slice A4 x4.length c4] := (Bk.new _ _ _).alloc _
  have ky0 : Bk ((w.alloc (.cells #[.int .i64 x0, .int .i64 x1, .string x2, .string x3, .slice A4 x4.length c4] 51)).alloc (.cells #[.int .i64 y0, .int .i64 y1, .string y2, .string y3, .slice B4 y4.length d4] 51)) (w.heap.size + 1) 51 #[.int .i64 y0, .int .i64 y1, .string y2, .string y3, .slice B4 y4.length d4] := by simpa using Bk.new (w.alloc (.cells #[.int .i64 x0, .int .i64 x1, .string x2, .string x3, .slice A4 x4.length c4] 51)) 51 #[.int .i64 y0, .int .i64 y1, .string y2, .string y3, .slice B4 y4.length d4]
  have uu0 : Up w ((w.alloc (.cells #[.int .i64 x0, .int .i64 x1, .string x2, .string x3, .slice A4 x4.length c4] 51)).alloc (.cells #[.int .i64 y0, .int .i64 y1, .string y2, .string y3, .slice B4 y4.length d4] 51)) := ((Up.refl _).alloc _).alloc _
  by_cases e_0 : ¬ x0 = y0
  · have hx : (x0 != y0) = true := by simp [e_0]
    have HE : Hid (¬ (x0, x1, x2, x3, x4) = (y0, y1, y2, y3, y4)) := by unfold Hid; intro hh; (try simp only [Prod.mk.injEq] at hh); exact e_0 (by simp [hh])
    clear e_0
    go_enter Try.func25, Try.ntmps25
    go_wp2_with fail
    go_ret
    exact EqP.f HE.out uu0
  replace e_0 := Decidable.of_not_not e_0
  subst e_0
  by_cases e_1 : ¬ x1 = y1
  · have hx : (x1 != y1) = true := by simp [e_1]
    have HE : Hid (¬ (x0, x1, x2, x3, x4) = (x0, y1, y2, y3, y4)) := by unfold Hid; intro hh; (try simp only [Prod.mk.injEq] at hh); exact e_1 (by simp [hh])
    clear e_1
    go_enter Try.func25, Try.ntmps25
    go_wp2_with fail
    go_ret
    exact EqP.f HE.out uu0
  replace e_1 := Decidable.of_not_not e_1
  subst e_1
  by_cases e_2 : ¬ x2 = y2
  · have hx : (x2.toList == y2.toList) = false := by rw [str_beq]; simp [e_2]
    have HE : Hid (¬ (x0, x1, x2, x3, x4) = (x0, x1, y2, y3, y4)) := by unfold Hid; intro hh; (try simp only [Prod.mk.injEq] at hh); exact e_2 (by simp [hh])
    clear e_2
    go_enter Try.func25, Try.ntmps25
    go_wp2_with fail
    go_ret
    exact EqP.f HE.out uu0
  replace e_2 := Decidable.of_not_not e_2
  subst e_2
  by_cases e_3 : ¬ x3 = y3
  · have hx : (x3.toList == y3.toList) = false := by rw [str_beq]; simp [e_3]
    have HE : Hid (¬ (x0, x1, x2, x3, x4) = (x0, x1, x2, y3, y4)) := by unfold Hid; intro hh; (try simp only [Prod.mk.injEq] at hh); exact e_3 (by simp [hh])
    clear e_3
    go_enter Try.func25, Try.ntmps25
    go_wp2_with fail
    go_ret
    exact EqP.f HE.out uu0
  replace e_3 := Decidable.of_not_not e_3
  subst e_3
  go_enter Try.func25, Try.ntmps25
  go_wp2_with fail
  refine (HH.out _ _ _ _ _ _ _ (b4.up (good_L good_Qq) uu0) (e4.up (good_L good_Qq) uu0)).mono ?_
  rintro r w1 ⟨bb, rfl, hbb, u1⟩
  have uu1 := uu0.trans u1
  have kx1 := kx0.up u1
  have ky1 := ky0.up u1
  clear u1
  rcases eqb_cases hbb with ⟨rfl, e_4⟩ | ⟨rfl, e_4⟩
  · clear hbb
    have HE : Hid (¬ (x0, x1, x2, x3, x4) = (x0, x1, x2, x3, y4)) := by unfold Hid; intro hh; (try simp only [Prod.mk.injEq] at hh); exact e_4 (by simp [hh])
    clear e_4
    go_wp2_with fail
    go_ret
    exact EqP.f HE.out uu1
  clear hbb
  subst e_4
  go_wp2_with fail
  go_ret
  exact EqP.t (by simp) uu1
set_option maxRecDepth 100000 in
set_option maxHeartbeats 1000000 in
theorem c_eqPatternS {γ : Type} {shQq : Sh γ} (good_Qq : Good shQq)  (xs ys : List (TPattern γ)) (A B : Option Addr) (c d : Nat) (w : World) (h : SRW (shPattern shQq) w A c xs) (k : SRW (shPattern shQq) w B d ys)
    (c_eqPatternH : ∀ (v u : Value) (x y : (TPattern γ)) (w : World), x ∈ xs → AV (shPattern shQq) w v x → AV (shPattern shQq) w u y → Calls Try.prog 25 #[v, u] w (EqP (x = y) w)) :
    Calls Try.prog 9 #[.slice A xs.length c, .slice B ys.length d] w (EqP (xs = ys) w) := by
  have HH := Lib.hid c_eqPatternH; clear c_eqPatternH
  have hlen := h.len_le
  have klen := k.len_le
  by_cases hl : xs.length = ys.length
  · have hb : ((xs.length : Int) != (ys.length : Int)) = false := by simp [hl]
    have HL := Lib.hid hl; clear hl
    go_enter Try.func9, Try.ntmps9
    go_wp2
    go_loopw [5] (fun i wr => ∃ k : Nat, k ≤ xs.length ∧ i = .int .i64 k ∧ Hid (xs.take k = ys.take k) ∧ Up w wr) (fun i _ => xs.length - (intOf i).toNat)
    case atStart => exact ⟨0, Nat.zero_le _, rfl, rfl, Up.refl _⟩
    case round =>
      obtain ⟨j, hj, rfl, HT, hu⟩ := hrel
      by_cases hlt : j < xs.length
      · have hlt' : j < ys.length := by rw [← HL.out]; exact hlt
        obtain ⟨g, off, A4, c4, rfl, _, _, hc0, hc1, hc2, hc3, hc4, b0, b1, b2, b3, b4, _⟩ := atPattern (h.up (good_Pattern good_Qq) hu) hlt
        obtain ⟨g', off', B4, d4, rfl, _, _, hd0, hd1, hd2, hd3, hd4, f0, f1, f2, f3, f4, _⟩ := atPattern (k.up (good_Pattern good_Qq) hu) hlt'
        go_wp2_with fail
        go_still_tail 8, (by kernel_rfl)
        change wpList _ _ _ _ _ wr.drew
        go_wp2_with fail
        refine (HH.out _ _ xs[j] ys[j] _ (List.getElem_mem hlt) (AV.up (good_Pattern good_Qq) ⟨_, rfl, mkPattern (x := xs[j]) b0 b1 b2 b3 b4⟩ ((Up.refl wr).drew)) (AV.up (good_Pattern good_Qq) ⟨_, rfl, mkPattern (x := ys[j]) f0 f1 f2 f3 f4⟩ ((Up.refl wr).drew))).mono ?_
        rintro e w1 ⟨bb, rfl, hbb, hu1⟩
        rcases (eqb_cases hbb).symm with ⟨rfl, he⟩ | ⟨rfl, he⟩
        · clear hbb
          have HE := Lib.hid he; clear he
          go_wp2_with fail
          go_roundw
          case rel => exact ⟨j + 1, by omega, by go_num, take_snoc_eq HT.out hlt hlt' HE.out, hu.drew.trans hu1⟩
          case measure => simp [intOf]; omega
        · clear hbb
          have HE := Lib.hid (ne_of_at hlt hlt' he); clear he
          go_wp2_with fail
          go_ret
          exact EqP.f HE.out (hu.drew.trans hu1)
      · have HE := Lib.hid (take_all_eq HT.out (by omega) (by rw [← HL.out]; omega))
        go_wp2
        go_ret
        exact EqP.t HE.out hu
  · have hb : ((xs.length : Int) != (ys.length : Int)) = true := by rw [bne_iff_ne]; omega
    have HE := Lib.hid (ne_of_len hl); clear hl
    go_enter Try.func9, Try.ntmps9
    go_wp2
    go_ret
    exact EqP.f HE.out (Up.refl _)

theorem asmPattern {γ : Type} {shQq : Sh γ} {w : World} {lo hi : Nat} {x0 : Int} {x1 : Int} {x2 : ByteArray} {x3 : ByteArray} {x4 : List (List γ)} {D4 : Option Addr} {d4 : Nat} {bl4 : List Nat} (h0 : I64 x0) (h1 : I64 x1) (h2 : x2.size ≤ maxLen) (h3 : x3.size ≤ maxLen) (h4 : SO (shL shQq) w lo hi D4 d4 x4 bl4) : (shPattern shQq).own w lo hi [.int .i64 x0, .int .i64 x1, .string x2, .string x3, .slice D4 x4.length d4] (x0, x1, x2, x3, x4) (bl4) := by
  have h : (shPattern shQq).own w lo hi [.int .i64 x0, .int .i64 x1, .string x2, .string x3, .slice D4 x4.length d4] (x0, x1, x2, x3, x4) _ := (mkO_P (a := shI) (x := (x0, x1, x2, x3, x4)) good_I ⟨⟨rfl, h0⟩, rfl⟩ (mkO_P (a := shI) (x := (x1, x2, x3, x4)) good_I ⟨⟨rfl, h1⟩, rfl⟩ (mkO_P (a := shS) (x := (x2, x3, x4)) good_S ⟨⟨rfl, h2⟩, rfl⟩ (mkO_P (a := shS) (x := (x3, x4)) good_S ⟨⟨rfl, h3⟩, rfl⟩ ⟨D4, d4, rfl, h4⟩))))
  simpa using h
set_option maxRecDepth 100000 in
set_option maxHeartbeats 4000000 in
theorem c_toPattern {γ : Type} {shQq : Sh γ} (good_Qq : Good shQq) (c_toQqSS : ∀ (xs : List (List γ)) (A : Option Addr) (c : Nat) (w : World), SRW (shL shQq) w A c xs → (shL (shL shQq)).sz xs ≤ 1048576 → Calls Try.prog 37 #[.slice A xs.length c] w (ToL (shL shQq) xs w)) (v : Value) (x : (TPattern γ)) (w : World) (h : AV (shPattern shQq) w v x) (hn : (shPattern shQq).sz x ≤ 1048576) :
    Calls Try.prog 22 #[v] w (ToV (shPattern shQq) x w) := by
  have HH := Lib.hid c_toQqSS; clear c_toQqSS
  obtain ⟨cs, rfl, h⟩ := h
  obtain ⟨x0, x1, x2, x3, x4⟩ := x
  have ho := openPattern h
  try dsimp only at ho
  obtain ⟨A4, c4, rfl, b0, b1, b2, b3, b4⟩ := ho
  have hs : (shPattern shQq).sz (x0, x1, x2, x3, x4) = 0 + (0 + (x2.size + (x3.size + ((shL (shL shQq)).sz x4)))) := rfl
  have hl4 : (shL (shL shQq)).sz x4 ≤ 1048576 := by omega
  clear hs hn
  go_enter Try.func22, Try.ntmps22
  go_wp2_with fail
  have vv0 : Up w (((w.alloc (.cells #[.int .i64 x0, .int .i64 x1, .string x2, .string x3, .slice A4 x4.length c4] 47)).alloc (.cells #[.int .i64 0, .int .i64 0, .string ⟨#[]⟩, .string ⟨#[]⟩, .slice none 0 0] 51)).alloc (.cells #[.int .i64 x0, .int .i64 x1, .string x2, .string x3, .slice none 0 0] 51)) := (((Up.refl _).alloc _).alloc _).alloc _
  have ja0 : Bk (((w.alloc (.cells #[.int .i64 x0, .int .i64 x1, .string x2, .string x3, .slice A4 x4.length c4] 47)).alloc (.cells #[.int .i64 0, .int .i64 0, .string ⟨#[]⟩, .string ⟨#[]⟩, .slice none 0 0] 51)).alloc (.cells #[.int .i64 x0, .int .i64 x1, .string x2, .string x3, .slice none 0 0] 51)) w.heap.size 47 #[.int .i64 x0, .int .i64 x1, .string x2, .string x3, .slice A4 x4.length c4] := ((Bk.new _ _ _).alloc _).alloc _
  have jr0 : Bk (((w.alloc (.cells #[.int .i64 x0, .int .i64 x1, .string x2, .string x3, .slice A4 x4.length c4] 47)).alloc (.cells #[.int .i64 0, .int .i64 0, .string ⟨#[]⟩, .string ⟨#[]⟩, .slice none 0 0] 51)).alloc (.cells #[.int .i64 x0, .int .i64 x1, .string x2, .string x3, .slice none 0 0] 51)) (w.heap.size + 1) 51 #[.int .i64 0, .int .i64 0, .string ⟨#[]⟩, .string ⟨#[]⟩, .slice none 0 0] := by simpa using (Bk.new (w.alloc (.cells #[.int .i64 x0, .int .i64 x1, .string x2, .string x3, .slice A4 x4.length c4] 47)) 51 #[.int .i64 0, .int .i64 0, .string ⟨#[]⟩, .string ⟨#[]⟩, .slice none 0 0]).alloc (.cells #[.int .i64 x0, .int .i64 x1, .string x2, .string x3, .slice none 0 0] 51)
  have jo0 : Bk (((w.alloc (.cells #[.int .i64 x0, .int .i64 x1, .string x2, .string x3, .slice A4 x4.length c4] 47)).alloc (.cells #[.int .i64 0, .int .i64 0, .string ⟨#[]⟩, .string ⟨#[]⟩, .slice none 0 0] 51)).alloc (.cells #[.int .i64 x0, .int .i64 x1, .string x2, .string x3, .slice none 0 0] 51)) (w.heap.size + 1 + 1) 51 #[.int .i64 x0, .int .i64 x1, .string x2, .string x3, .slice none 0 0] := by simpa using Bk.new ((w.alloc (.cells #[.int .i64 x0, .int .i64 x1, .string x2, .string x3, .slice A4 x4.length c4] 47)).alloc (.cells #[.int .i64 0, .int .i64 0, .string ⟨#[]⟩, .string ⟨#[]⟩, .slice none 0 0] 51)) 51 #[.int .i64 x0, .int .i64 x1, .string x2, .string x3, .slice none 0 0]
  have sz0 : w.heap.size + 1 + 1 + 1 = (((w.alloc (.cells #[.int .i64 x0, .int .i64 x1, .string x2, .string x3, .slice A4 x4.length c4] 47)).alloc (.cells #[.int .i64 0, .int .i64 0, .string ⟨#[]⟩, .string ⟨#[]⟩, .slice none 0 0] 51)).alloc (.cells #[.int .i64 x0, .int .i64 x1, .string x2, .string x3, .slice none 0 0] 51)).heap.size := by simp
  refine (HH.out _ _ _ _ (b4.up (good_L good_Qq) vv0) hl4).mono ?_
  rintro e w1 ⟨D4, d4, bl4, rfl, o4, nd4, u1⟩
  have uu1 := vv0.trans u1
  have ka1 := ja0.up u1
  have kr1 := jr0.up u1
  have ko1 := jo0.up u1
  have zz1 := u1.size
  rw [← sz0] at zz1
  have s1_4 : SO (shL shQq) w1 (w.heap.size + 1 + 1 + 1) w1.heap.size D4 d4 x4 bl4 := by rw [sz0]; exact o4
  have nn1 : (bl4).Nodup := nd4
  have mm1 : ∀ b ∈ bl4, b < w1.heap.size := fun b hb => (s1_4.in_ (good_L good_Qq) b hb).2
  clear ja0 jr0 jo0 u1 o4
  have ga1_0 : w1.cell? ⟨w.heap.size, 0, none⟩ = some (.int .i64 x0) := ka1.cell 0
  have gr1_0 : w1.cell? ⟨w.heap.size + 1, 0, none⟩ = some (.int .i64 0) := kr1.cell 0
  have go1_0 : w1.cell? ⟨w.heap.size + 1 + 1, 0, none⟩ = some (.int .i64 x0) := ko1.cell 0
  have fr1_0 := kr1.frozen 0
  have fo1_0 := ko1.frozen 0
  have ga1_1 : w1.cell? ⟨w.heap.size, 1, none⟩ = some (.int .i64 x1) := ka1.cell 1
  have gr1_1 : w1.cell? ⟨w.heap.size + 1, 1, none⟩ = some (.int .i64 0) := kr1.cell 1
  have go1_1 : w1.cell? ⟨w.heap.size + 1 + 1, 1, none⟩ = some (.int .i64 x1) := ko1.cell 1
  have fr1_1 := kr1.frozen 1
  have fo1_1 := ko1.frozen 1
  have ga1_2 : w1.cell? ⟨w.heap.size, 2, none⟩ = some (.string x2) := ka1.cell 2
  have gr1_2 : w1.cell? ⟨w.heap.size + 1, 2, none⟩ = some (.string ⟨#[]⟩) := kr1.cell 2
  have go1_2 : w1.cell? ⟨w.heap.size + 1 + 1, 2, none⟩ = some (.string x2) := ko1.cell 2
  have fr1_2 := kr1.frozen 2
  have fo1_2 := ko1.frozen 2
  have ga1_3 : w1.cell? ⟨w.heap.size, 3, none⟩ = some (.string x3) := ka1.cell 3
  have gr1_3 : w1.cell? ⟨w.heap.size + 1, 3, none⟩ = some (.string ⟨#[]⟩) := kr1.cell 3
  have go1_3 : w1.cell? ⟨w.heap.size + 1 + 1, 3, none⟩ = some (.string x3) := ko1.cell 3
  have fr1_3 := kr1.frozen 3
  have fo1_3 := ko1.frozen 3
  have ga1_4 : w1.cell? ⟨w.heap.size, 4, none⟩ = some (.slice A4 x4.length c4) := ka1.cell 4
  have gr1_4 : w1.cell? ⟨w.heap.size + 1, 4, none⟩ = some (.slice none 0 0) := kr1.cell 4
  have go1_4 : w1.cell? ⟨w.heap.size + 1 + 1, 4, none⟩ = some (.slice none 0 0) := ko1.cell 4
  have fr1_4 := kr1.frozen 4
  have fo1_4 := ko1.frozen 4
  go_wp2_with fail
  have z_4 := ((s1_4.set (good_L good_Qq) (w.heap.size + 1 + 1) 4 [.slice D4 x4.length d4] (by omega)).set (good_L good_Qq) (w.heap.size + 1) 0 [.int .i64 x0, .int .i64 x1, .string x2, .string x3, .slice D4 x4.length d4] (by omega)).wide (good_L good_Qq) (lo' := w.heap.size) (by omega) (Nat.le_refl _)
  have fu := ((uu1.sets (g := (w.heap.size + 1 + 1)) (by omega) 4 [.slice D4 x4.length d4]).sets (g := (w.heap.size + 1)) (by omega) 0 [.int .i64 x0, .int .i64 x1, .string x2, .string x3, .slice D4 x4.length d4])
  refine bodyPost_ret (v := .agg #[.int .i64 x0, .int .i64 x1, .string x2, .string x3, .slice D4 x4.length d4]) (by simp [results, Try.results22, go_sem, gr1_0, gr1_1, gr1_2, gr1_3, gr1_4]) rfl ?_
  exact ⟨[.int .i64 x0, .int .i64 x1, .string x2, .string x3, .slice D4 x4.length d4], _, rfl, asmPattern b0 b1 b2 b3 z_4, by simpa using nn1, fu⟩
theorem info_Pattern : (Try.prog.info? 51).map (fun i => (i.zero, i.size, i.bytes)) = some (some (.agg #[.int .i64 0, .int .i64 0, .string ⟨#[]⟩, .string ⟨#[]⟩, .slice none 0 0]), 5, 72) := by kernel_rfl
set_option maxHeartbeats 1000000 in
theorem c_toPatternS {γ : Type} {shQq : Sh γ} (good_Qq : Good shQq)  (xs : List (TPattern γ)) (A : Option Addr) (c : Nat) (w : World) (h : SRW (shPattern shQq) w A c xs) (hn : (shL (shPattern shQq)).sz xs ≤ 1048576)
    (c_toPatternH : ∀ (v : Value) (x : (TPattern γ)) (w : World), x ∈ xs → AV (shPattern shQq) w v x → (shPattern shQq).sz x ≤ 1048576 → Calls Try.prog 22 #[v] w (ToV (shPattern shQq) x w)) :
    Calls Try.prog 7 #[.slice A xs.length c] w (ToL (shPattern shQq) xs w) := by
  have HH := Lib.hid c_toPatternH; clear c_toPatternH
  have hl : xs.length ≤ 1048576 := Nat.le_trans (Nat.le_add_right _ _) hn
  obtain ⟨i0, hi0, hz0, hz1, hz2⟩ := info_parts info_Pattern
  have hmk := fun W => run_make_rows (P := Try.prog) 25 51 i0 _ Try.underlying25 hi0 hz0 xs.length (by rw [hz2]; omega) (by omega) W
  rw [hz1] at hmk
  clear hi0 hz0 hz1 hz2
  obtain ⟨C0, hC0⟩ : ∃ C0, C0 = madeCells (Value.cells (.agg #[.int .i64 0, .int .i64 0, .string ⟨#[]⟩, .string ⟨#[]⟩, .slice none 0 0])) (xs.length * 5) := ⟨_, rfl⟩
  rw [← hC0] at hmk
  have HB : Bld (shPattern shQq) w.heap.size (w.alloc (.cells C0 51)) w.heap.size 51 C0 xs.length xs 0 :=
    Bld.start (Nat.le_refl _) (Bk.new _ _ _) (by rw [hC0, size_madeCells]; rfl)
  clear hC0
  go_enter Try.func7, Try.ntmps7
  go_wp2
  go_loopw [4] (fun i wr => ∃ (k : Nat) (C : Array Value), k ≤ xs.length ∧ i = .int .i64 k ∧ Bld (shPattern shQq) w.heap.size wr w.heap.size 51 C xs.length xs k ∧ Up w wr) (fun i _ => xs.length - (intOf i).toNat)
  case atStart => exact ⟨0, C0, Nat.zero_le _, rfl, HB, (Up.refl _).alloc _⟩
  case round =>
    obtain ⟨k, C, hk, rfl, hB, hu⟩ := hrel
    by_cases hlt : k < xs.length
    · obtain ⟨g, off, A4, c4, rfl, _, _, hc0, hc1, hc2, hc3, hc4, b0, b1, b2, b3, b4, _⟩ := atPattern (h.up (good_Pattern good_Qq) hu) hlt
      have hx := sz_le (shPattern shQq) xs hlt hn
      go_wp2_with fail
      refine (HH.out _ xs[k] _ (List.getElem_mem hlt) ⟨_, rfl, mkPattern (x := xs[k]) b0 b1 b2 b3 b4⟩ hx).mono ?_
      rintro e w1 ⟨cs, bl, rfl, ho, hnd, u1⟩
      obtain ⟨D4, d4, _, rfl, rfl, _, _, _, _, _⟩ := openOPattern ho
      have hbk := hB.1.up u1
      have hC : C.size = xs.length * 5 := hB.2.1
      obtain ⟨o0, hm0⟩ : ∃ o, w1.cell? ⟨w.heap.size, k * 5, none⟩ = some o := by rw [hbk.cell]; exact ⟨_, Array.getElem?_eq_getElem (by omega)⟩
      have hf0 := hbk.frozen (k * 5)
      obtain ⟨o1, hm1⟩ : ∃ o, w1.cell? ⟨w.heap.size, k * 5 + 1, none⟩ = some o := by rw [hbk.cell]; exact ⟨_, Array.getElem?_eq_getElem (by omega)⟩
      have hf1 := hbk.frozen (k * 5 + 1)
      obtain ⟨o2, hm2⟩ : ∃ o, w1.cell? ⟨w.heap.size, k * 5 + 2, none⟩ = some o := by rw [hbk.cell]; exact ⟨_, Array.getElem?_eq_getElem (by omega)⟩
      have hf2 := hbk.frozen (k * 5 + 2)
      obtain ⟨o3, hm3⟩ : ∃ o, w1.cell? ⟨w.heap.size, k * 5 + 3, none⟩ = some o := by rw [hbk.cell]; exact ⟨_, Array.getElem?_eq_getElem (by omega)⟩
      have hf3 := hbk.frozen (k * 5 + 3)
      obtain ⟨o4, hm4⟩ : ∃ o, w1.cell? ⟨w.heap.size, k * 5 + 4, none⟩ = some o := by rw [hbk.cell]; exact ⟨_, Array.getElem?_eq_getElem (by omega)⟩
      have hf4 := hbk.frozen (k * 5 + 4)
      go_wp2_with fail
      go_roundw
      case rel => exact ⟨k + 1, _, by omega, by go_num, hB.push (good_Pattern good_Qq) u1 ho hnd (List.getElem?_eq_getElem hlt) hlt (But.sets [_, _, _, _, _] _ _) (Bk.sets [_, _, _, _, _] hbk _), (hu.trans u1).sets (Nat.le_refl _) _ [_, _, _, _, _]⟩
      case measure => simp [intOf]; omega
    · obtain ⟨bl, hso, hnd⟩ := hB.done (c := xs.length) (by omega) (Nat.le_refl _) (by unfold maxLen; omega) (Nat.le_refl _)
      go_wp2
      go_ret
      exact ⟨_, _, bl, rfl, hso, hnd, hu⟩

theorem SR.at_L {α : Type} {s : Sh α} {w : World} {lo hi : Nat} {A : Option Addr} {c : Nat} {xs : List (List α)} (h : SR (shL s) w lo hi A c xs) {i : Nat} (hi' : i < xs.length) :
    ∃ (g off : Nat) (A1 : Option Addr) (c1 : Nat), A = some ⟨g, off, none⟩ ∧ lo ≤ g ∧ g < hi ∧ w.cell? ⟨g, off + i, none⟩ = some (.slice A1 xs[i].length c1) ∧ SR s w lo hi A1 c1 xs[i] := by
  obtain ⟨g, off, cs, hA, h1, h2, hc, A1, c1, rfl, hr⟩ := h.at_ hi'
  have := hc.2 0 Nat.one_pos
  exact ⟨g, off, A1, c1, hA, h1, h2, by simpa [shL] using this, hr⟩

set_option maxHeartbeats 1000000 in
theorem c_szPatternSS {γ : Type} {s : Sh γ} (hg : Good s) (cS : ∀ (xs : List γ) (A : Option Addr) (c : Nat) (left : Int) (w : World), SRW s w A c xs → 0 ≤ left → left ≤ 1048576 → Calls Try.prog 5 #[.slice A xs.length c, .int .i64 left] w (SzP left ((shL s).sz xs) w))
    (xs : List (List γ)) (A : Option Addr) (c : Nat) (left : Int) (w : World) (h : SRW (shL s) w A c xs) (h0 : 0 ≤ left) (h1 : left ≤ 1048576) :
    Calls Try.prog 34 #[.slice A xs.length c, .int .i64 left] w (SzP left ((shL (shL s)).sz xs) w) := by
  have HH := Lib.hid cS; clear cS
  have hlen := h.len_le
  have HS := Lib.hid (show (shL (shL s)).sz xs = xs.length + (xs.map (shL s).sz).sum from rfl)
  go_enter Try.func34, Try.ntmps34
  go_wp2
  · go_ret
    exact SzP.no (by rw [HS.out]; omega) (Up.refl _)
  · go_loopw [1, 5] (fun l i wr => ∃ k : Nat, k ≤ xs.length ∧ i = .int .i64 k ∧ l = .int .i64 (left - xs.length - psum (shL s).sz xs k) ∧ (xs.length + psum (shL s).sz xs k : Int) ≤ left ∧ Up w wr) (fun _ i _ => xs.length - (intOf i).toNat)
    case atStart => exact ⟨0, Nat.zero_le _, rfl, by simp [psum_zero], by simp [psum_zero]; omega, Up.refl _⟩
    case round =>
      obtain ⟨k, hk, rfl, rfl, hp, hu⟩ := hrel
      by_cases hlt : k < xs.length
      · obtain ⟨g, off, A1, c1, rfl, _, _, hc0, b0⟩ := (h.up (good_L hg) hu).at_L hlt
        have HP := Lib.hid (psum_succ (shL s).sz xs k hlt)
        have hle := psum_le (shL s).sz xs (k + 1)
        rw [HP.out] at hle
        go_wp2_with fail
        refine (HH.out xs[k] _ _ _ _ b0 (by omega) (by omega)).mono ?_
        rintro e w1 ⟨rfl, hu1⟩
        by_cases hq : ((shL s).sz xs[k] : Int) ≤ left - xs.length - psum (shL s).sz xs k
        · rw [szR_yes hq]
          go_wp2_with fail
          go_roundw
          case rel => exact ⟨k + 1, by omega, by go_num, by rw [HP.out]; go_num, by rw [HP.out]; omega, hu.trans hu1⟩
          case measure => simp [intOf]; omega
        · rw [szR_no (by omega)]
          go_wp2_with fail
          go_ret
          exact SzP.no (by rw [HS.out]; omega) (hu.trans hu1)
      · have HK := Lib.hid (show k = xs.length by omega)
        go_wp2_with fail
        go_ret
        exact SzP.yes (by rw [HS.out, ← psum_all, ← HK.out]; omega) (by rw [HS.out, ← psum_all, ← HK.out]; omega) hu

set_option maxHeartbeats 1000000 in
set_option maxRecDepth 100000 in
theorem c_eqPatternSS {γ : Type} {s : Sh γ} (hg : Good s) (cS : ∀ (xs ys : List γ) (A B : Option Addr) (c d : Nat) (w : World), SRW s w A c xs → SRW s w B d ys → Calls Try.prog 9 #[.slice A xs.length c, .slice B ys.length d] w (EqP (xs = ys) w))
    (xs ys : List (List γ)) (A B : Option Addr) (c d : Nat) (w : World) (h : SRW (shL s) w A c xs) (k : SRW (shL s) w B d ys) :
    Calls Try.prog 40 #[.slice A xs.length c, .slice B ys.length d] w (EqP (xs = ys) w) := by
  have HH := Lib.hid cS; clear cS
  have hlen := h.len_le
  have klen := k.len_le
  by_cases hl : xs.length = ys.length
  · have hb : ((xs.length : Int) != (ys.length : Int)) = false := by simp [hl]
    have HL := Lib.hid hl; clear hl
    go_enter Try.func40, Try.ntmps40
    go_wp2
    go_loopw [5] (fun i wr => ∃ k : Nat, k ≤ xs.length ∧ i = .int .i64 k ∧ Hid (xs.take k = ys.take k) ∧ Up w wr) (fun i _ => xs.length - (intOf i).toNat)
    case atStart => exact ⟨0, Nat.zero_le _, rfl, rfl, Up.refl _⟩
    case round =>
      obtain ⟨j, hj, rfl, HT, hu⟩ := hrel
      by_cases hlt : j < xs.length
      · have hlt' : j < ys.length := by rw [← HL.out]; exact hlt
        obtain ⟨g, off, A1, c1, rfl, _, _, hc0, b0⟩ := (h.up (good_L hg) hu).at_L hlt
        obtain ⟨g', off', B1, d1, rfl, _, _, hd0, f0⟩ := (k.up (good_L hg) hu).at_L hlt'
        go_wp2_with fail
        go_still_tail 8, (by kernel_rfl)
        change wpList _ _ _ _ _ wr.drew
        go_wp2_with fail
        refine (HH.out xs[j] ys[j] _ _ _ _ _ (b0.up hg ((Up.refl wr).drew)) (f0.up hg ((Up.refl wr).drew))).mono ?_
        rintro e w1 ⟨bb, rfl, hbb, hu1⟩
        rcases (eqb_cases hbb).symm with ⟨rfl, he⟩ | ⟨rfl, he⟩
        · clear hbb
          have HE := Lib.hid he; clear he
          go_wp2_with fail
          go_roundw
          case rel => exact ⟨j + 1, by omega, by go_num, take_snoc_eq HT.out hlt hlt' HE.out, hu.drew.trans hu1⟩
          case measure => simp [intOf]; omega
        · clear hbb
          have HE := Lib.hid (ne_of_at hlt hlt' he); clear he
          go_wp2_with fail
          go_ret
          exact EqP.f HE.out (hu.drew.trans hu1)
      · have HE := Lib.hid (take_all_eq HT.out (by omega) (by rw [← HL.out]; omega))
        go_wp2
        go_ret
        exact EqP.t HE.out hu
  · have hb : ((xs.length : Int) != (ys.length : Int)) = true := by rw [bne_iff_ne]; omega
    have HE := Lib.hid (ne_of_len hl); clear hl
    go_enter Try.func40, Try.ntmps40
    go_wp2
    go_ret
    exact EqP.f HE.out (Up.refl _)

theorem info_PatternS : (Try.prog.info? 25).map (fun i => (i.zero, i.size, i.bytes)) = some (some (.slice none 0 0), 1, 24) := by kernel_rfl
set_option maxHeartbeats 1000000 in
theorem c_toPatternSS {γ : Type} {s : Sh γ} (hg : Good s) (cS : ∀ (xs : List γ) (A : Option Addr) (c : Nat) (w : World), SRW s w A c xs → (shL s).sz xs ≤ 1048576 → Calls Try.prog 7 #[.slice A xs.length c] w (ToL s xs w))
    (xs : List (List γ)) (A : Option Addr) (c : Nat) (w : World) (h : SRW (shL s) w A c xs) (hn : (shL (shL s)).sz xs ≤ 1048576) :
    Calls Try.prog 37 #[.slice A xs.length c] w (ToL (shL s) xs w) := by
  have HH := Lib.hid cS; clear cS
  have hl : xs.length ≤ 1048576 := Nat.le_trans (Nat.le_add_right _ _) hn
  obtain ⟨i0, hi0, hz0, hz1, hz2⟩ := info_parts info_PatternS
  have hmk := fun W => run_make_rows (P := Try.prog) 49 25 i0 _ Try.underlying49 hi0 hz0 xs.length (by rw [hz2]; omega) (by omega) W
  rw [hz1] at hmk
  clear hi0 hz0 hz1 hz2
  obtain ⟨C0, hC0⟩ : ∃ C0, C0 = madeCells (Value.cells (.slice none 0 0)) (xs.length * 1) := ⟨_, rfl⟩
  rw [← hC0] at hmk
  have HB : Bld (shL s) w.heap.size (w.alloc (.cells C0 25)) w.heap.size 25 C0 xs.length xs 0 :=
    Bld.start (Nat.le_refl _) (Bk.new _ _ _) (by rw [hC0, size_madeCells]; rfl)
  clear hC0
  go_enter Try.func37, Try.ntmps37
  go_wp2
  go_loopw [4] (fun i wr => ∃ (k : Nat) (C : Array Value), k ≤ xs.length ∧ i = .int .i64 k ∧ Bld (shL s) w.heap.size wr w.heap.size 25 C xs.length xs k ∧ Up w wr) (fun i _ => xs.length - (intOf i).toNat)
  case atStart => exact ⟨0, C0, Nat.zero_le _, rfl, HB, (Up.refl _).alloc _⟩
  case round =>
    obtain ⟨k, C, hk, rfl, hB, hu⟩ := hrel
    by_cases hlt : k < xs.length
    · obtain ⟨g, off, A1, c1, rfl, _, _, hc0, b0⟩ := (h.up (good_L hg) hu).at_L hlt
      have hx := sz_le (shL s) xs hlt hn
      go_wp2_with fail
      refine (HH.out xs[k] _ _ _ b0 hx).mono ?_
      rintro e w1 ⟨D1, d1, bl, rfl, ho, hnd, u1⟩
      have hbk := hB.1.up u1
      have hC : C.size = xs.length * 1 := hB.2.1
      obtain ⟨o0, hm0⟩ : ∃ o, w1.cell? ⟨w.heap.size, k, none⟩ = some o := by rw [hbk.cell]; exact ⟨_, Array.getElem?_eq_getElem (by omega)⟩
      have hf0 := hbk.frozen k
      go_wp2_with fail
      go_roundw
      case rel => exact ⟨k + 1, _, by omega, by go_num, hB.push (good_L hg) u1 (cs := [.slice D1 xs[k].length d1]) (x := xs[k]) ⟨D1, d1, rfl, ho⟩ hnd (List.getElem?_eq_getElem hlt) hlt (But.set _ _ _ _) (by simpa [putCells, shL] using hbk.set k (.slice D1 xs[k].length d1)), (hu.trans u1).setCell (Nat.le_refl _) _⟩
      case measure => simp [intOf]; omega
    · obtain ⟨bl, hso, hnd⟩ := hB.done (c := xs.length) (by omega) (Nat.le_refl _) (by unfold maxLen; omega) (Nat.le_refl _)
      go_wp2
      go_ret
      exact ⟨_, _, bl, rfl, hso, hnd, hu⟩

/-! ### All depths -/
def Pat : Nat → Type
  | 0 => Empty
  | n + 1 => TPattern (Pat n)
def shE : Sh Empty where
  size := 5
  rep := fun _ _ _ _ _ => False
  own := fun _ _ _ _ _ _ => False
  sz := fun _ => 0
theorem good_E : Good shE where
  len := fun {_ _ _ _ x} _ => x.elim
  keep := fun {_ _ _ _ _ x} _ _ => x.elim
  wide := fun {_ _ _ _ _ _ x} _ _ _ => x.elim
  own_rep := fun {_ _ _ _ x _} _ => x.elim
  own_in := fun {_ _ _ _ x _} _ => x.elim
  own_keep := fun {_ _ _ _ _ x _} _ _ => x.elim
  own_wide := fun {_ _ _ _ _ _ x _} _ _ _ => x.elim
  own_le := fun {_ _ _ _ x _} _ => x.elim
  pos := by decide
  one := fun {_ _ _ _ x} _ => x.elim
def shPat : (n : Nat) → Sh (Pat n)
  | 0 => shE
  | n + 1 => shPattern (shPat n)
theorem good_Pat : ∀ n, Good (shPat n)
  | 0 => good_E
  | n + 1 => good_Pattern (good_Pat n)
theorem nil_E (xs : List Empty) : xs = [] := by cases xs with
  | nil => rfl
  | cons x _ => exact x.elim
theorem SR.of_nil {α β : Type} {s : Sh α} {t : Sh β} {w : World} {lo hi : Nat} {A : Option Addr} {c : Nat} (h : SR s w lo hi A c []) : SR t w lo hi A c [] := ⟨h.1, h.2.1, fun hp => absurd hp (by simp)⟩
theorem SO.of_nil {α β : Type} {s : Sh α} {t : Sh β} (hs : s.size = t.size) {w : World} {lo hi : Nat} {A : Option Addr} {c : Nat} {bl : List Nat} (h : SO s w lo hi A c [] bl) : SO t w lo hi A c [] bl := by
  refine ⟨h.1, h.2.1, ?_⟩
  rcases h.2.2 with ⟨_, h1, h2⟩ | ⟨g, off, C, tid, bls, hA, h1, h2, h3, h4, h5, h6, _⟩
  · exact .inl ⟨rfl, h1, h2⟩
  · exact .inr ⟨g, off, C, tid, bls, hA, h1, h2, h3, by rw [← hs]; exact h4, h5, h6, fun i hi => absurd hi (by simp)⟩

abbrev SzS (n : Nat) : Prop := ∀ (xs : List (Pat n)) (A : Option Addr) (c : Nat) (left : Int) (w : World), SRW (shPat n) w A c xs → 0 ≤ left → left ≤ 1048576 → Calls Try.prog 5 #[.slice A xs.length c, .int .i64 left] w (SzP left ((shL (shPat n)).sz xs) w)
theorem c_szPats : ∀ n, SzS n
  | 0 => fun xs A c left w h h0 h1 => by
    obtain rfl := nil_E xs
    exact c_szPatternS (γ := Empty) good_E [] A c left w (SR.of_nil h) h0 h1 (fun _ x _ _ hx => absurd hx (by simp))
  | n + 1 => fun xs A c left w h h0 h1 => c_szPatternS (good_Pat n) xs A c left w h h0 h1 (fun v x left w _ hx h0 h1 => c_szPattern (good_Pat n) (c_szPatternSS (good_Pat n) (c_szPats n)) v x left w hx h0 h1)
theorem EqP.iff {p q : Prop} {w w' : World} {e : Ending} (h : EqP p w e w') (hpq : p ↔ q) : EqP q w e w' := by
  obtain ⟨b, rfl, hb, u⟩ := h
  exact ⟨b, rfl, hb.trans hpq, u⟩
abbrev EqS (n : Nat) : Prop := ∀ (xs ys : List (Pat n)) (A B : Option Addr) (c d : Nat) (w : World), SRW (shPat n) w A c xs → SRW (shPat n) w B d ys → Calls Try.prog 9 #[.slice A xs.length c, .slice B ys.length d] w (EqP (xs = ys) w)
theorem c_eqPats : ∀ n, EqS n
  | 0 => fun xs ys A B c d w h k => by
    obtain rfl := nil_E xs
    obtain rfl := nil_E ys
    exact (c_eqPatternS (γ := Empty) good_E [] [] A B c d w (SR.of_nil h) (SR.of_nil k) (fun _ _ x _ _ hx => absurd hx (by simp))).mono fun e w' h => h.iff ⟨fun _ => rfl, fun _ => rfl⟩
  | n + 1 => fun xs ys A B c d w h k => c_eqPatternS (good_Pat n) xs ys A B c d w h k (fun v u x y w _ hx hy => c_eqPattern (good_Pat n) (c_eqPatternSS (good_Pat n) (c_eqPats n)) v u x y w hx hy)
abbrev ToS (n : Nat) : Prop := ∀ (xs : List (Pat n)) (A : Option Addr) (c : Nat) (w : World), SRW (shPat n) w A c xs → (shL (shPat n)).sz xs ≤ 1048576 → Calls Try.prog 7 #[.slice A xs.length c] w (ToL (shPat n) xs w)
theorem c_toPats : ∀ n, ToS n
  | 0 => fun xs A c w h hn => by
    obtain rfl := nil_E xs
    exact (c_toPatternS (γ := Empty) good_E [] A c w (SR.of_nil h) (Nat.zero_le _) (fun _ x _ hx => absurd hx (by simp))).mono fun e w' ⟨A', c', bl, he, h, nd, u⟩ => ⟨A', c', bl, he, SO.of_nil (s := shPattern shE) (t := shE) rfl h, nd, u⟩
  | n + 1 => fun xs A c w h hn => c_toPatternS (good_Pat n) xs A c w h hn (fun v x w _ hx hs => c_toPattern (good_Pat n) (c_toPatternSS (good_Pat n) (c_toPats n)) v x w hx hs)

end Go.Proofs.Ytgdcdfpnogiciaa
