/-
  Valid patterns: contracts of the program's PatternOk.
-/
import Derived.Test.YtgdcdfpnogiciaaVg
import Derived.Test.YtgdcdfpnogiciaaFun
import Derived.Test.YtgdcdfpnogiciaaShelf
namespace Go.Proofs.Ytgdcdfpnogiciaa
open Go.RowKit
set_option linter.unusedVariables false
set_option linter.unusedSimpArgs false

set_option maxHeartbeats 1000000 in
theorem c_IndexFuncPattern {γ : Type} {shQq : Sh γ} (good_Qq : Good shQq) (kf : FuncId) (cap : Array Value) (eg : ∀ args w, (callFunc kf args).run Try.prog w = .ok (.enter kf args) w) (p : (TPattern γ) → Bool) (A : Option Addr) (c : Nat) (xs : List (TPattern γ)) (w : World) (h : SRW (shPattern shQq) w A c xs)
    (hf : ∀ (W : World) (v : Value) (x : TPattern γ), x ∈ xs → Up w W → AV (shPattern shQq) W v x → Calls Try.prog kf (#[v] ++ cap) W (BoolP (p x) W)) :
    Calls Try.prog 81 #[.slice A xs.length c, .func (.func kf) #[] cap] w (IdxP p xs w) := by
  have hlen := h.len_le
  have HF := Lib.hid hf; clear hf
  go_enter Try.func81, Try.ntmps81
  go_wp2_with fail
  go_loopw [8] (fun i wr => ∃ k : Nat, k ≤ xs.length ∧ i = .int .i64 k ∧ Hid ((xs.take k).any p = false) ∧ Up w wr) (fun i _ => xs.length - (intOf i).toNat)
  case atStart => exact ⟨0, Nat.zero_le _, rfl, rfl, Up.refl _⟩
  case round =>
    obtain ⟨k, hk, rfl, HT, hu⟩ := hrel
    by_cases hlt : k < xs.length
    · obtain ⟨g, off, A4, c4, rfl, _, _, hc0, hc1, hc2, hc3, hc4, b0, b1, b2, b3, b4, _⟩ := atPattern (h.up (good_Pattern good_Qq) hu) hlt
      go_wp2_with fail
      refine (HF.out wr _ xs[k] (List.getElem_mem hlt) hu ⟨_, rfl, mkPattern (x := xs[k]) b0 b1 b2 b3 b4⟩).mono ?_
      rintro e w1 ⟨rfl, u1⟩
      cases hp : p xs[k]
      · have HN : Hid ((xs.take (k + 1)).any p = false) := by unfold Hid; rw [any_take_succ p xs k hlt, hp, HT.out]; rfl
        clear hp
        go_wp2_with fail
        go_roundw
        case rel => exact ⟨k + 1, by omega, by go_num, HN, hu.trans u1⟩
        case measure => simp [intOf]; omega
      · have HP := Lib.hid hp; clear hp
        go_wp2_with fail
        go_ret
        exact ⟨_, rfl, hu.trans u1, .inr ⟨k, rfl, hlt, HP.out, HT.out⟩⟩
    · have HE := Lib.hid (any_all p xs k HT.out (by omega))
      go_wp2_with fail
      go_ret
      exact ⟨-1, rfl, hu, .inl ⟨rfl, HE.out⟩⟩
set_option maxHeartbeats 1000000 in
theorem c_ContainsFuncPattern {γ : Type} {shQq : Sh γ} (good_Qq : Good shQq) (kf : FuncId) (cap : Array Value) (eg : ∀ args w, (callFunc kf args).run Try.prog w = .ok (.enter kf args) w) (p : (TPattern γ) → Bool) (A : Option Addr) (c : Nat) (xs : List (TPattern γ)) (w : World) (h : SRW (shPattern shQq) w A c xs)
    (hf : ∀ (W : World) (v : Value) (x : TPattern γ), x ∈ xs → Up w W → AV (shPattern shQq) W v x → Calls Try.prog kf (#[v] ++ cap) W (BoolP (p x) W)) :
    Calls Try.prog 56 #[.slice A xs.length c, .func (.func kf) #[] cap] w (BoolP (xs.any p) w) := by
  have HF := Lib.hid hf; clear hf
  have HG := Lib.hid eg; clear eg
  go_enter Try.func56, Try.ntmps56
  go_wp2_with fail
  refine (c_IndexFuncPattern good_Qq kf cap HG.out p A c xs w h HF.out).mono ?_
  rintro e w1 ⟨n, rfl, u1, hn⟩
  rcases hn with ⟨rfl, hn⟩ | ⟨i, rfl, hi, hp, _⟩
  · have HN := Lib.hid hn; clear hn
    go_wp2_with fail
    go_ret
    exact ⟨by rw [HN.out]; rfl, u1⟩
  · have HN := Lib.hid (any_at p xs i hi hp); clear hp
    have h0 : (0 : Int) ≤ i := by omega
    go_wp2_with fail
    go_ret
    exact ⟨by rw [HN.out]; simp, u1⟩

set_option maxHeartbeats 1000000 in
theorem c_IndexFuncPatternS {γ : Type} {shQq : Sh γ} (good_Qq : Good shQq) (kf : FuncId) (cap : Array Value) (eg : ∀ args w, (callFunc kf args).run Try.prog w = .ok (.enter kf args) w) (p : (List γ) → Bool) (A : Option Addr) (c : Nat) (xs : List (List γ)) (w : World) (h : SRW (shL shQq) w A c xs)
    (hf : ∀ (W : World) (A : Option Addr) (c : Nat) (x : List γ), x ∈ xs → Up w W → SRW shQq W A c x → Calls Try.prog kf (#[.slice A x.length c] ++ cap) W (BoolP (p x) W)) :
    Calls Try.prog 103 #[.slice A xs.length c, .func (.func kf) #[] cap] w (IdxP p xs w) := by
  have hlen := h.len_le
  have HF := Lib.hid hf; clear hf
  go_enter Try.func103, Try.ntmps103
  go_wp2_with fail
  go_loopw [8] (fun i wr => ∃ k : Nat, k ≤ xs.length ∧ i = .int .i64 k ∧ Hid ((xs.take k).any p = false) ∧ Up w wr) (fun i _ => xs.length - (intOf i).toNat)
  case atStart => exact ⟨0, Nat.zero_le _, rfl, rfl, Up.refl _⟩
  case round =>
    obtain ⟨k, hk, rfl, HT, hu⟩ := hrel
    by_cases hlt : k < xs.length
    · obtain ⟨g, off, A1, c1, rfl, _, _, hc0, b0⟩ := (h.up (good_L good_Qq) hu).at_L hlt
      go_wp2_with fail
      refine (HF.out wr _ _ xs[k] (List.getElem_mem hlt) hu b0).mono ?_
      rintro e w1 ⟨rfl, u1⟩
      cases hp : p xs[k]
      · have HN : Hid ((xs.take (k + 1)).any p = false) := by unfold Hid; rw [any_take_succ p xs k hlt, hp, HT.out]; rfl
        clear hp
        go_wp2_with fail
        go_roundw
        case rel => exact ⟨k + 1, by omega, by go_num, HN, hu.trans u1⟩
        case measure => simp [intOf]; omega
      · have HP := Lib.hid hp; clear hp
        go_wp2_with fail
        go_ret
        exact ⟨_, rfl, hu.trans u1, .inr ⟨k, rfl, hlt, HP.out, HT.out⟩⟩
    · have HE := Lib.hid (any_all p xs k HT.out (by omega))
      go_wp2_with fail
      go_ret
      exact ⟨-1, rfl, hu, .inl ⟨rfl, HE.out⟩⟩
set_option maxHeartbeats 1000000 in
theorem c_ContainsFuncPatternS {γ : Type} {shQq : Sh γ} (good_Qq : Good shQq) (kf : FuncId) (cap : Array Value) (eg : ∀ args w, (callFunc kf args).run Try.prog w = .ok (.enter kf args) w) (p : (List γ) → Bool) (A : Option Addr) (c : Nat) (xs : List (List γ)) (w : World) (h : SRW (shL shQq) w A c xs)
    (hf : ∀ (W : World) (A : Option Addr) (c : Nat) (x : List γ), x ∈ xs → Up w W → SRW shQq W A c x → Calls Try.prog kf (#[.slice A x.length c] ++ cap) W (BoolP (p x) W)) :
    Calls Try.prog 83 #[.slice A xs.length c, .func (.func kf) #[] cap] w (BoolP (xs.any p) w) := by
  have HF := Lib.hid hf; clear hf
  have HG := Lib.hid eg; clear eg
  go_enter Try.func83, Try.ntmps83
  go_wp2_with fail
  refine (c_IndexFuncPatternS good_Qq kf cap HG.out p A c xs w h HF.out).mono ?_
  rintro e w1 ⟨n, rfl, u1, hn⟩
  rcases hn with ⟨rfl, hn⟩ | ⟨i, rfl, hi, hp, _⟩
  · have HN := Lib.hid hn; clear hn
    go_wp2_with fail
    go_ret
    exact ⟨by rw [HN.out]; rfl, u1⟩
  · have HN := Lib.hid (any_at p xs i hi hp); clear hp
    have h0 : (0 : Int) ≤ i := by omega
    go_wp2_with fail
    go_ret
    exact ⟨by rw [HN.out]; simp, u1⟩

/-! ### Codes -/
def ibV (c : UInt8) : Int := Lib.indexByte [65, 67, 69, 76, 78, 80, 85] c
theorem ibV_t {c : UInt8} (h : isCodeV c = true) : 0 ≤ ibV c := by
  simp only [isCodeV, Bool.or_eq_true, beq_iff_eq] at h
  rcases h with (((((rfl | rfl) | rfl) | rfl) | rfl) | rfl) | rfl <;> decide
theorem ibV_f {c : UInt8} (h : isCodeV c = false) : ibV c = -1 := by
  simp only [isCodeV, Bool.or_eq_false_iff, beq_eq_false_iff_ne] at h
  obtain ⟨⟨⟨⟨⟨⟨h1, h2⟩, h3⟩, h4⟩, h5⟩, h6⟩, h7⟩ := h
  have g1 : ¬ (65 : UInt8) = c := fun e => h1 e.symm
  have g2 : ¬ (67 : UInt8) = c := fun e => h2 e.symm
  have g3 : ¬ (69 : UInt8) = c := fun e => h3 e.symm
  have g4 : ¬ (76 : UInt8) = c := fun e => h4 e.symm
  have g5 : ¬ (78 : UInt8) = c := fun e => h5 e.symm
  have g6 : ¬ (80 : UInt8) = c := fun e => h6 e.symm
  have g7 : ¬ (85 : UInt8) = c := fun e => h7 e.symm
  unfold ibV
  simp [Lib.indexByte, g1, g2, g3, g4, g5, g6, g7]
theorem vc_ib (c : UInt8) (w : World) : Calls Try.prog 102 #[.string (ByteArray.mk #[65, 67, 69, 76, 78, 80, 85]), .int .u8 (c.toNat : Int)] w fun e w' => e = .returned (.int .i64 (ibV c)) ∧ w = w' :=
  (Try.strings_IndexByte (ByteArray.mk #[65, 67, 69, 76, 78, 80, 85]) (c.toNat : Int) w).mono fun e w' ⟨he, hw⟩ => ⟨by
    rw [he]
    have : ((c.toNat : Int).toNat).toUInt8 = c := by simp
    rw [this]
    rfl, hw.symm⟩

set_option maxHeartbeats 1000000 in
theorem vc_codesOk (t : ByteArray) (w : World) (ht : t.size ≤ maxLen) : Calls Try.prog 82 #[.string t] w fun e w' => e = .returned (.bool (risesB t)) ∧ Up w w' := by
  unfold maxLen at ht
  go_enter Try.func82, Try.ntmps82
  go_wp2_with fail
  go_loopw [3] (fun i wr => ∃ k : Nat, k ≤ t.size ∧ i = .int .i64 k ∧ Hid (risesTo t k) ∧ Up w wr) (fun i _ => t.size - (intOf i).toNat)
  case atStart => exact ⟨0, by omega, rfl, fun i _ h => absurd h (by omega), Up.refl _⟩
  case round =>
    obtain ⟨k, hk, rfl, H, hu⟩ := hrel
    by_cases hlt : k < t.size
    · cases hcd : isCodeV t[k]
      · have HV : Hid (risesB t = false) := risesB_f fun h => by have := (h k hlt).1; rw [hcd] at this; cases this
        have hi : ibV t[k] < 0 := by rw [ibV_f hcd]; decide
        clear hcd
        go_wp2_with fail
        go_quiet ((go_at_call 102; exact Calls.quiet_of_same ((vc_ib t[k] _).mono (fun _ _ h => ⟨h.1, h.2.symm⟩))))
        go_wp2_with fail
        go_ret
        exact ⟨by rw [HV.out] <;> rfl, hu.drewN _⟩
      · have hi0 := ibV_t hcd
        have hi : decide (ibV t[k] < 0) = false := by simp; omega
        by_cases hk0 : 0 < k
        · have hk1 : (0 : Int) < (k : Int) := by omega
          have hk3 : (0 : Int) ≤ (k : Int) - 1 := by omega
          have hk6 : (1 : Int) ≤ (k : Int) := by omega
          have hk7 : (k : Int) - 1 < (t.size : Int) := by omega
          have hk5 : k - 1 < t.size := by omega
          have hk2 : IntKind.i64.wrap ((k : Int) - 1) = (k : Int) - 1 := IntWalk.i64_in _ (by omega)
          have hk4 : ((k : Int) - 1).toNat = k - 1 := by omega
          by_cases hlt2 : t[k - 1].toNat < t[k].toNat
          · have HN : Hid (risesTo t (k + 1)) := risesTo_succ H.out hlt hcd fun _ => hlt2
            have hd : decide (t[k].toNat ≤ t[k - 1].toNat) = false := by simp; omega
            clear hcd hlt2 hi0
            go_wp2_with fail
            go_quiet ((go_at_call 102; exact Calls.quiet_of_same ((vc_ib t[k] _).mono (fun _ _ h => ⟨h.1, h.2.symm⟩))))
            go_wp2_with fail
            go_roundw
            case rel => exact ⟨k + 1, by omega, by go_num, HN, hu.drewN _⟩
            case measure => simp [intOf]; omega
          · have HV : Hid (risesB t = false) := risesB_f fun h => hlt2 ((h k hlt).2 hk0)
            have hd : decide (t[k].toNat ≤ t[k - 1].toNat) = true := by simp; omega
            clear hcd hlt2 hi0
            go_wp2_with fail
            go_quiet ((go_at_call 102; exact Calls.quiet_of_same ((vc_ib t[k] _).mono (fun _ _ h => ⟨h.1, h.2.symm⟩))))
            go_wp2_with fail
            go_ret
            exact ⟨by rw [HV.out] <;> rfl, hu.drewN _⟩
        · have hk1 : decide ((0 : Int) < (k : Int)) = false := by simp; omega
          have HN : Hid (risesTo t (k + 1)) := risesTo_succ H.out hlt hcd fun h => absurd h hk0
          clear hcd hi0
          go_wp2_with fail
          go_quiet ((go_at_call 102; exact Calls.quiet_of_same ((vc_ib t[k] _).mono (fun _ _ h => ⟨h.1, h.2.symm⟩))))
          go_wp2_with fail
          go_roundw
          case rel => exact ⟨k + 1, by omega, by go_num, HN, hu.drewN _⟩
          case measure => simp [intOf]; omega
    · have HV : Hid (risesB t = true) := risesB_t (risesTo_all H.out (by omega))
      go_wp2_with fail
      go_ret
      exact ⟨by rw [HV.out] <;> rfl, hu⟩

/-! ### Items -/
section
variable {γ : Type} {okA : List γ → Int → Bool} {x0 x1 : Int} {x2 x3 : ByteArray} {x4 : List (List γ)} {deep : Int}
theorem item_codes (q : 0 ≤ x0 ∧ x0 ≤ 99 ∧ (x1 = -1 ∨ x0 ≤ x1) ∧ x1 ≤ 99) (h : ¬ x2 = ⟨#[]⟩) : itemP okA (x0, x1, x2, x3, x4) deep ↔ (risesV x2 ∧ x3 = ⟨#[]⟩ ∧ x4.length = 0) := by
  unfold itemP bodyP
  simp only [lowV, highV, codesV, textV, altsV]
  constructor
  · rintro ⟨_, _, _, _, _, _, hb⟩
    split at hb
    · exact absurd hb.1 h
    · split at hb
      · exact absurd hb h
      · rename_i h1 h2
        exact ⟨hb.2, Decidable.of_not_not h2, by omega⟩
  · rintro ⟨h1, h2, h3⟩
    refine ⟨q.1, q.2.1, q.2.2.1, q.2.2.2, by rw [h2]; decide, by omega, ?_⟩
    rw [if_neg (by omega), if_neg (by simpa using h2)]
    exact ⟨h, h1⟩
theorem item_text (q : 0 ≤ x0 ∧ x0 ≤ 99 ∧ (x1 = -1 ∨ x0 ≤ x1) ∧ x1 ≤ 99) (h : x2 = ⟨#[]⟩) (h' : ¬ x3 = ⟨#[]⟩) : itemP okA (x0, x1, x2, x3, x4) deep ↔ (x3.size ≤ 24 ∧ x4.length = 0) := by
  unfold itemP bodyP
  simp only [lowV, highV, codesV, textV, altsV]
  constructor
  · rintro ⟨_, _, _, _, h5, _, hb⟩
    split at hb
    · exact absurd hb.2.1 h'
    · exact ⟨h5, by omega⟩
  · rintro ⟨h1, h3⟩
    refine ⟨q.1, q.2.1, q.2.2.1, q.2.2.2, h1, by omega, ?_⟩
    rw [if_neg (by omega), if_pos h']
    exact h
theorem item_alts (q : 0 ≤ x0 ∧ x0 ≤ 99 ∧ (x1 = -1 ∨ x0 ≤ x1) ∧ x1 ≤ 99) (h : x2 = ⟨#[]⟩) (h' : x3 = ⟨#[]⟩) : itemP okA (x0, x1, x2, x3, x4) deep ↔ (1 ≤ x4.length ∧ x4.length ≤ 8 ∧ deep ≠ 0 ∧ ∀ l ∈ x4, okA l (deep - 1) = true) := by
  unfold itemP bodyP
  simp only [lowV, highV, codesV, textV, altsV]
  constructor
  · rintro ⟨_, _, _, _, _, h6, hb⟩
    split at hb
    · exact ⟨by omega, h6, hb.2.2.1, hb.2.2.2⟩
    · split at hb
      · exact absurd h' (by assumption)
      · exact absurd h hb.1
  · rintro ⟨h1, h2, h3, h4⟩
    refine ⟨q.1, q.2.1, q.2.2.1, q.2.2.2, by rw [h']; decide, h2, ?_⟩
    rw [if_pos (by omega)]
    exact ⟨h, h', h3, h4⟩
end
theorem app_two {a b : Value} : (#[a] ++ #[b] : Array Value) = #[a, b] := rfl
theorem eg_itemOk1 : ∀ args w, (callFunc 84 args).run Try.prog w = .ok (.enter 84 args) w := enters_of Try.func84 (by kernel_rfl) rfl
theorem eg_itemsOk1 : ∀ args w, (callFunc 57 args).run Try.prog w = .ok (.enter 57 args) w := enters_of Try.func57 (by kernel_rfl) rfl

set_option maxHeartbeats 1000000 in
theorem vc_itemOk1 {γ : Type} {shQq : Sh γ} (good_Qq : Good shQq) (okA : List γ → Int → Bool)
    (cI : ∀ (l : List γ) (A : Option Addr) (c : Nat) (d : Int) (w : World), SRW shQq w A c l → 0 ≤ d → d ≤ 3 → Calls Try.prog 38 #[.slice A l.length c, .int .i64 d] w (BoolQ (okA l (3 - d)) w))
    (l : List γ) (A : Option Addr) (c : Nat) (d : Int) (B : Nat) (w : World) (h : SRW shQq w A c l) (h0 : 0 ≤ d) (h3 : d < 3) (hB : w.cell? ⟨B, 0, none⟩ = some (.int .i64 d)) :
    Calls Try.prog 84 #[.slice A l.length c, .pointer (some ⟨B, 0, none⟩)] w (BoolP (!okA l (3 - (d + 1))) w) := by
  have HH := Lib.hid cI; clear cI
  go_enter Try.func84, Try.ntmps84
  go_wp2_with fail
  refine (HH.out l A c (d + 1) _ h (by omega) (by omega)).mono ?_
  rintro e w1 ⟨rfl, u1⟩
  go_wp2_with fail
  go_ret
  exact ⟨rfl, u1⟩

set_option maxRecDepth 100000 in
set_option maxHeartbeats 4000000 in
theorem vc_itemOk {γ : Type} {shQq : Sh γ} (good_Qq : Good shQq) (okA : List γ → Int → Bool)
    (cI : ∀ (l : List γ) (A : Option Addr) (c : Nat) (d : Int) (w : World), SRW shQq w A c l → 0 ≤ d → d ≤ 3 → Calls Try.prog 38 #[.slice A l.length c, .int .i64 d] w (BoolQ (okA l (3 - d)) w))
    (v : Value) (x : TPattern γ) (d : Int) (w : World) (h : AV (shPattern shQq) w v x) (h0 : 0 ≤ d) (h3 : d ≤ 3) :
    Calls Try.prog 58 #[v, .int .i64 d] w (BoolQ (itemV okA x (3 - d)) w) := by
  have HH := Lib.hid cI; clear cI
  obtain ⟨cs, rfl, h⟩ := h
  obtain ⟨x0, x1, x2, x3, x4⟩ := x
  have ho := openPattern h
  dsimp only at ho
  obtain ⟨A4, c4, rfl, b0, b1, b2, b3, b4⟩ := ho
  have bm2 := b2; unfold maxLen at bm2
  have bm3 := b3; unfold maxLen at bm3
  have bl4 := b4.len_le
  have kd0 : Bk ((w.alloc (.cells #[.int .i64 x0, .int .i64 x1, .string x2, .string x3, .slice A4 x4.length c4] 51)).alloc (.cells #[.int .i64 d] 3)) (w.heap.size + 1) 3 #[.int .i64 d] := by simpa using Bk.new (w.alloc (.cells #[.int .i64 x0, .int .i64 x1, .string x2, .string x3, .slice A4 x4.length c4] 51)) 3 #[.int .i64 d]
  have uu0 : Up w ((w.alloc (.cells #[.int .i64 x0, .int .i64 x1, .string x2, .string x3, .slice A4 x4.length c4] 51)).alloc (.cells #[.int .i64 d] 3)) := ((Up.refl _).alloc _).alloc _
  obtain ⟨V, hV⟩ : ∃ V, itemV okA (x0, x1, x2, x3, x4) (3 - d) = V := ⟨_, rfl⟩
  rw [hV]
  have no : Hid (¬ itemP okA (x0, x1, x2, x3, x4) (3 - d) → false = V) := fun h => by rw [← hV, itemV_f.2 h]
  have yes : Hid (itemP okA (x0, x1, x2, x3, x4) (3 - d) → true = V) := fun h => by rw [← hV, itemV_t.2 h]
  clear hV h
  by_cases q1 : 0 ≤ x0 ∧ x0 ≤ 99
  case neg =>
    have e1 : inB x0 0 99 = false := inB_f.2 q1
    have HF := Lib.hid (no.out fun hp => q1 ⟨hp.1, hp.2.1⟩)
    clear q1
    go_enter Try.func58, Try.ntmps58
    go_wp2_with (go_at_call 55; refine (within_any _ _ _ _).mono ?_; rintro e w1 ⟨rfl, rfl⟩; rw [e1])
    go_ret
    exact BoolQ.mk HF.out uu0
  have e1 : inB x0 0 99 = true := inB_t.2 q1
  obtain ⟨q1a, q1b⟩ := q1
  have q2 : (x1 ≠ -1 ∧ ¬ (x0 ≤ x1 ∧ x1 ≤ 99)) ∨ x1 = -1 ∨ (x1 ≠ -1 ∧ (x0 ≤ x1 ∧ x1 ≤ 99)) := by omega
  rcases q2 with ⟨q2a, q2b⟩ | q2
  · have e2 : inB x1 x0 99 = false := inB_f.2 q2b
    have d1 : (x1 != -1) = true := by simpa using q2a
    have HF := Lib.hid (no.out fun hp => by have h1 : x1 = -1 ∨ x0 ≤ x1 := hp.2.2.1; have h2 : x1 ≤ 99 := hp.2.2.2.1; omega)
    clear q2a q2b
    go_enter Try.func58, Try.ntmps58
    go_wp2_with (go_at_call 55; refine (within_any _ _ _ _).mono ?_; rintro e w1 ⟨rfl, rfl⟩; first | rw [e1] | rw [e2])
    go_ret
    exact BoolQ.mk HF.out uu0
  have Q := Lib.hid (show 0 ≤ x0 ∧ x0 ≤ 99 ∧ (x1 = -1 ∨ x0 ≤ x1) ∧ x1 ≤ 99 from ⟨q1a, q1b, by omega, by omega⟩)
  have q3 : (x1 != -1) = false ∨ ((x1 != -1) = true ∧ inB x1 x0 99 = true) := by
    rcases q2 with q2 | ⟨q2a, q2b⟩
    · exact .inl (by simpa using q2)
    · exact .inr ⟨by simpa using q2a, inB_t.2 q2b⟩
  clear q2
  rcases q3 with d1 | ⟨d1, e2⟩
  case' inl => have e2 : True := trivial
  all_goals
    by_cases c2 : x2 = ⟨#[]⟩
    case neg =>
      obtain ⟨s1, s2, s3⟩ := str_some c2
      have ic := item_codes (okA := okA) (x3 := x3) (x4 := x4) (deep := 3 - d) Q.out c2
      have IC := Lib.hid ic
      clear ic c2
      by_cases c3 : x3 = ⟨#[]⟩
      · obtain ⟨r1, r2, r3⟩ := str_empty c3
        have C3 := Lib.hid c3; clear c3 r3
        by_cases a4 : x4.length = 0
        · have HB : Hid (risesB x2 = V) := by
            unfold Hid
            by_cases hr : risesV x2
            · rw [risesB_t hr]; exact yes.out (IC.out.2 ⟨hr, C3.out, a4⟩)
            · rw [risesB_f hr]; exact no.out fun hp => hr (IC.out.1 hp).1
          have a4i : ((x4.length : Int) == 0) = true := by simpa using a4
          have A4h := Lib.hid a4; clear a4
          go_enter Try.func58, Try.ntmps58
          go_wp2_with (first | (go_at_call 55; refine (within_any _ _ _ _).mono ?_; rintro e w1 ⟨rfl, rfl⟩; first | rw [e1] | rw [e2]))
          refine (vc_codesOk x2 _ b2).mono ?_
          rintro e w1 ⟨rfl, u1⟩
          have kk1 := ((Bk.new w 51 #[.int .i64 x0, .int .i64 x1, .string x2, .string x3, .slice A4 x4.length c4]).alloc (.cells #[.int .i64 d] 3)).up u1
          have g3 : w1.cell? ⟨w.heap.size, 3, none⟩ = some (.string x3) := kk1.cell 3
          have g4 : w1.cell? ⟨w.heap.size, 4, none⟩ = some (.slice A4 x4.length c4) := kk1.cell 4
          cases hr : risesB x2
          all_goals
            rw [hr] at HB
            clear hr
            go_wp2_with fail
            go_ret
            exact BoolQ.mk HB.out (uu0.trans u1)
        · have HF := Lib.hid (no.out fun hp => a4 (IC.out.1 hp).2.2)
          have a4i : ((x4.length : Int) == 0) = false := by rw [beq_eq_false_iff_ne]; omega
          clear a4
          go_enter Try.func58, Try.ntmps58
          go_wp2_with (first | (go_at_call 55; refine (within_any _ _ _ _).mono ?_; rintro e w1 ⟨rfl, rfl⟩; first | rw [e1] | rw [e2]))
          refine (vc_codesOk x2 _ b2).mono ?_
          rintro e w1 ⟨rfl, u1⟩
          have kk1 := ((Bk.new w 51 #[.int .i64 x0, .int .i64 x1, .string x2, .string x3, .slice A4 x4.length c4]).alloc (.cells #[.int .i64 d] 3)).up u1
          have g3 : w1.cell? ⟨w.heap.size, 3, none⟩ = some (.string x3) := kk1.cell 3
          have g4 : w1.cell? ⟨w.heap.size, 4, none⟩ = some (.slice A4 x4.length c4) := kk1.cell 4
          cases hr : risesB x2
          all_goals
            clear hr
            go_wp2_with fail
            go_ret
            exact BoolQ.mk HF.out (uu0.trans u1)
      · obtain ⟨r1, r2, r3⟩ := str_some c3
        have HF := Lib.hid (no.out fun hp => c3 (IC.out.1 hp).2.1)
        clear c3
        go_enter Try.func58, Try.ntmps58
        go_wp2_with (first | (go_at_call 55; refine (within_any _ _ _ _).mono ?_; rintro e w1 ⟨rfl, rfl⟩; first | rw [e1] | rw [e2]))
        refine (vc_codesOk x2 _ b2).mono ?_
        rintro e w1 ⟨rfl, u1⟩
        have kk1 := ((Bk.new w 51 #[.int .i64 x0, .int .i64 x1, .string x2, .string x3, .slice A4 x4.length c4]).alloc (.cells #[.int .i64 d] 3)).up u1
        have g3 : w1.cell? ⟨w.heap.size, 3, none⟩ = some (.string x3) := kk1.cell 3
        have g4 : w1.cell? ⟨w.heap.size, 4, none⟩ = some (.slice A4 x4.length c4) := kk1.cell 4
        cases hr : risesB x2
        all_goals
          clear hr
          go_wp2_with fail
          go_ret
          exact BoolQ.mk HF.out (uu0.trans u1)
    obtain ⟨s1, s2, s3⟩ := str_empty c2
    have C2 := Lib.hid c2; clear c2 s3
    by_cases c3 : x3 = ⟨#[]⟩
    case neg =>
      have it := item_text (okA := okA) (x4 := x4) (deep := 3 - d) Q.out C2.out c3
      obtain ⟨r1, r2, r3⟩ := str_some c3
      clear c3
      by_cases t3 : x3.size ≤ 24
      · by_cases a4 : x4.length = 0
        · have HF := Lib.hid (yes.out (it.2 ⟨t3, a4⟩))
          have a4i : ((x4.length : Int) == 0) = true := by simpa using a4
          have A4h := Lib.hid a4; clear a4 it
          go_enter Try.func58, Try.ntmps58
          go_wp2_with (first | (go_at_call 55; refine (within_any _ _ _ _).mono ?_; rintro e w1 ⟨rfl, rfl⟩; first | rw [e1] | rw [e2]))
          go_ret
          exact BoolQ.mk HF.out uu0
        · have HF := Lib.hid (no.out fun hp => a4 (it.1 hp).2)
          have a4i : ((x4.length : Int) == 0) = false := by rw [beq_eq_false_iff_ne]; omega
          clear a4 it
          go_enter Try.func58, Try.ntmps58
          go_wp2_with (first | (go_at_call 55; refine (within_any _ _ _ _).mono ?_; rintro e w1 ⟨rfl, rfl⟩; first | rw [e1] | rw [e2]))
          go_ret
          exact BoolQ.mk HF.out uu0
      · have HF := Lib.hid (no.out fun hp => t3 (it.1 hp).1)
        have t3i : ¬ (x3.size : Int) ≤ 24 := by omega
        have t3d : decide ((x3.size : Int) ≤ 24) = false := by simpa using t3i
        clear it t3
        go_enter Try.func58, Try.ntmps58
        go_wp2_with (first | (go_at_call 55; refine (within_any _ _ _ _).mono ?_; rintro e w1 ⟨rfl, rfl⟩; first | rw [e1] | rw [e2]))
        go_ret
        exact BoolQ.mk HF.out uu0
    obtain ⟨r1, r2, r3⟩ := str_empty c3
    have ia := item_alts (okA := okA) (x4 := x4) (deep := 3 - d) Q.out C2.out c3
    have IA := Lib.hid ia; clear ia
    have C3 := Lib.hid c3; clear c3 r3
    by_cases l4 : 1 ≤ x4.length ∧ x4.length ≤ 8
    case neg =>
      have e3 : inB (x4.length : Int) 1 8 = false := inB_f.2 (by omega)
      have HF := Lib.hid (no.out fun hp => l4 ⟨(IA.out.1 hp).1, (IA.out.1 hp).2.1⟩)
      clear l4
      go_enter Try.func58, Try.ntmps58
      go_wp2_with (first | (go_at_call 55; refine (within_any _ _ _ _).mono ?_; rintro e w1 ⟨rfl, rfl⟩; first | rw [e1] | rw [e2] | rw [e3]))
      go_ret
      exact BoolQ.mk HF.out uu0
    have e3 : inB (x4.length : Int) 1 8 = true := inB_t.2 (by omega)
    by_cases d3 : d < 3
    case neg =>
      have HF := Lib.hid (no.out fun hp => (IA.out.1 hp).2.2.1 (by omega))
      have d3d : decide (d < 3) = false := by simp; omega
      go_enter Try.func58, Try.ntmps58
      go_wp2_with (first | (go_at_call 55; refine (within_any _ _ _ _).mono ?_; rintro e w1 ⟨rfl, rfl⟩; first | rw [e1] | rw [e2] | rw [e3]))
      go_ret
      exact BoolQ.mk HF.out uu0
    have hB : Hid ((!(x4.any fun l => !okA l (3 - (d + 1)))) = V) := by
      unfold Hid
      have e5 : 3 - (d + 1) = 3 - d - 1 := by omega
      rw [e5]
      by_cases ha : ∀ l ∈ x4, okA l (3 - d - 1) = true
      · rw [← yes.out (IA.out.2 ⟨l4.1, l4.2, by omega, ha⟩)]
        have : (x4.any fun l => !okA l (3 - d - 1)) = false := by
          rw [List.any_eq_false]
          intro l hl
          rw [ha l hl]
          decide
        rw [this]
        rfl
      · rw [← no.out fun hp => ha (IA.out.1 hp).2.2.2]
        have : (x4.any fun l => !okA l (3 - d - 1)) = true := by
          rw [List.any_eq_true]
          obtain ⟨l, ha⟩ := Classical.not_forall.1 ha
          obtain ⟨hl, h2⟩ := Classical.not_imp.1 ha
          exact ⟨l, hl, by simpa using h2⟩
        rw [this]
        rfl
    clear yes no IA l4
    have CF := Lib.hid (c_ContainsFuncPatternS good_Qq 84 #[.pointer (some ⟨w.heap.size + 1, 0, none⟩)] eg_itemOk1 (fun l => !okA l (3 - (d + 1))) A4 c4 x4 _ (b4.up (good_L good_Qq) uu0) (fun W A c l _ hW hl => by
      rw [app_two]
      exact vc_itemOk1 good_Qq okA HH.out l A c d (w.heap.size + 1) W hl h0 d3 ((kd0.up hW).cell 0)))
    clear HH
    go_enter Try.func58, Try.ntmps58
    go_wp2_with (first | (go_at_call 55; refine (within_any _ _ _ _).mono ?_; rintro e w1 ⟨rfl, rfl⟩; first | rw [e1] | rw [e2] | rw [e3]))
    refine CF.out.mono ?_
    rintro e w1 ⟨rfl, u1⟩
    generalize (x4.any fun l => !okA l (3 - (d + 1))) = Bq at hB
    go_wp2_with fail
    go_ret
    exact BoolQ.mk hB.out (uu0.trans u1)

set_option maxHeartbeats 1000000 in
theorem vc_itemsOk1 {γ : Type} {shQq : Sh γ} (good_Qq : Good shQq) (okA : List γ → Int → Bool) (v : Value) (x : TPattern γ) (d : Int) (B : Nat) (w : World) (h : AV (shPattern shQq) w v x) (hB : w.cell? ⟨B, 0, none⟩ = some (.int .i64 d))
    (cI : ∀ (w : World) (v : Value), AV (shPattern shQq) w v x → Calls Try.prog 58 #[v, .int .i64 d] w (BoolQ (itemV okA x (3 - d)) w)) :
    Calls Try.prog 57 #[v, .pointer (some ⟨B, 0, none⟩)] w (BoolP (!itemV okA x (3 - d)) w) := by
  have HH := Lib.hid cI; clear cI
  obtain ⟨cs, rfl, h⟩ := h
  obtain ⟨x0, x1, x2, x3, x4⟩ := x
  have ho := openPattern h
  dsimp only at ho
  obtain ⟨A4, c4, rfl, b0, b1, b2, b3, b4⟩ := ho
  have hBl := cell_lt hB
  have uu0 : Up w (w.alloc (.cells #[.int .i64 x0, .int .i64 x1, .string x2, .string x3, .slice A4 x4.length c4] 51)) := (Up.refl _).alloc _
  have AV0 : AV (shPattern shQq) (w.alloc (.cells #[.int .i64 x0, .int .i64 x1, .string x2, .string x3, .slice A4 x4.length c4] 51)) (.agg #[.int .i64 x0, .int .i64 x1, .string x2, .string x3, .slice A4 x4.length c4]) (x0, x1, x2, x3, x4) := AV.up (good_Pattern good_Qq) ⟨_, rfl, mkPattern (x := (x0, x1, x2, x3, x4)) b0 b1 b2 b3 b4⟩ uu0
  go_enter Try.func57, Try.ntmps57
  go_wp2_with fail
  refine (HH.out _ _ AV0).mono ?_
  rintro e w1 ⟨rfl, u1⟩
  go_wp2_with fail
  go_ret
  exact ⟨rfl, uu0.trans u1⟩

set_option maxRecDepth 100000 in
set_option maxHeartbeats 4000000 in
theorem vc_itemsOk {γ : Type} {shQq : Sh γ} (good_Qq : Good shQq) (okA : List γ → Int → Bool) (xs : List (TPattern γ)) (A : Option Addr) (c : Nat) (d : Int) (w : World) (h : SRW (shPattern shQq) w A c xs) (h0 : 0 ≤ d) (h3 : d ≤ 3)
    (cI : ∀ (v : Value) (x : TPattern γ) (w : World), x ∈ xs → AV (shPattern shQq) w v x → Calls Try.prog 58 #[v, .int .i64 d] w (BoolQ (itemV okA x (3 - d)) w)) :
    Calls Try.prog 38 #[.slice A xs.length c, .int .i64 d] w (BoolQ (listV okA xs (3 - d)) w) := by
  have hlen := h.len_le
  have u0 : Up w (w.alloc (.cells #[.int .i64 d] 3)) := (Up.refl _).alloc _
  have k1 : Bk (w.alloc (.cells #[.int .i64 d] 3)) w.heap.size 3 #[.int .i64 d] := Bk.new _ _ _
  by_cases l1 : 1 ≤ xs.length ∧ xs.length ≤ 8
  case neg =>
    have HF : Hid (false = listV okA xs (3 - d)) := by
      unfold Hid
      rw [eq_comm, Bool.eq_false_iff]
      intro hh
      have := listV_t.1 hh
      exact l1 ⟨this.1, this.2.1⟩
    have e1 : inB (xs.length : Int) 1 8 = false := inB_f.2 (by omega)
    clear l1 cI
    go_enter Try.func38, Try.ntmps38
    go_wp2_with (first | (go_at_call 55; refine (within_any _ _ _ _).mono ?_; rintro e w1 ⟨rfl, rfl⟩; rw [e1]))
    go_ret
    exact BoolQ.mk HF.out u0
  have e1 : inB (xs.length : Int) 1 8 = true := inB_t.2 (by omega)
  have hB : Hid ((!(xs.any fun x => !itemV okA x (3 - d))) = listV okA xs (3 - d)) := by
    unfold Hid
    simp [listV, l1, List.all_eq_not_any_not]
  clear l1
  have CF := Lib.hid (c_ContainsFuncPattern good_Qq 57 #[.pointer (some ⟨w.heap.size, 0, none⟩)] eg_itemsOk1 (fun x => !itemV okA x (3 - d)) A c xs _ (h.up (good_Pattern good_Qq) u0) (fun W v x hx hW hav => by
    rw [app_two]
    exact vc_itemsOk1 good_Qq okA v x d w.heap.size W hav ((k1.up hW).cell 0) (fun w v h => cI v x w hx h)))
  clear cI
  go_enter Try.func38, Try.ntmps38
  go_wp2_with (first | (go_at_call 55; refine (within_any _ _ _ _).mono ?_; rintro e w1 ⟨rfl, rfl⟩; rw [e1]))
  refine CF.out.mono ?_
  rintro e w1 ⟨rfl, u1⟩
  generalize (xs.any fun x => !itemV okA x (3 - d)) = Bq at hB
  go_wp2_with fail
  go_ret
  exact BoolQ.mk hB.out (u0.trans u1)

abbrev OkI (n : Nat) : Prop := ∀ (l : List (Pat n)) (A : Option Addr) (c : Nat) (d : Int) (w : World), SRW (shPat n) w A c l → 0 ≤ d → d ≤ 3 → Calls Try.prog 38 #[.slice A l.length c, .int .i64 d] w (BoolQ (okPats n l (3 - d)) w)
theorem vc_itemsPats : ∀ n, OkI n
  | 0 => fun l A c d w h h0 h3 => by
    obtain rfl := nil_E l
    exact (vc_itemsOk (γ := Empty) good_E (fun _ _ => false) [] A c d w (SR.of_nil h) h0 h3 (fun _ x _ hx => absurd hx (by simp))).mono fun e w' ⟨he, u⟩ => ⟨by rw [he]; simp [listV, okPats], u⟩
  | n + 1 => fun l A c d w h h0 h3 => vc_itemsOk (good_Pat n) (okPats n) l A c d w h h0 h3 (fun v x w _ hx => vc_itemOk (good_Pat n) (okPats n) (vc_itemsPats n) v x d w hx h0 h3)
end Go.Proofs.Ytgdcdfpnogiciaa

