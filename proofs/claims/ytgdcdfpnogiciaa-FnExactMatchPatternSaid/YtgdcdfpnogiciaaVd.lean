/-
  Rows of bools in own memory; contracts of the classes of bytes.
-/
import Derived.Test.YtgdcdfpnogiciaaVb
import Derived.Test.YtgdcdfpnogiciaaBas
import Derived.Test.YtgdcdfpnogiciaaAp
import Derived.OwnWalk
import Derived.Deep.QuietTactic
import Derived.BigQuiet
import Derived.StillTailTactics
namespace Go.Proofs.Ytgdcdfpnogiciaa
open Go.RowKit
set_option linter.unusedVariables false
set_option linter.unusedSimpArgs false

/-! ### Rows of bools -/
def RowB (w : World) (g off : Nat) (t : TypeId) (C : Array Value) (F : List Bool) : Prop :=
  Bk w g t C ∧ off + F.length ≤ C.size ∧ ∀ i (h : i < F.length), C[off + i]? = some (.bool F[i])
section
variable {w w' : World} {g off : Nat} {t : TypeId} {C : Array Value} {F : List Bool}
theorem RowB.up (h : RowB w g off t C F) (u : Up w w') : RowB w' g off t C F := ⟨h.1.up u, h.2⟩
theorem RowB.cell (h : RowB w g off t C F) {i : Nat} (hi : i < F.length) : w.cell? ⟨g, off + i, none⟩ = some (.bool F[i]) := by rw [h.1.cell]; exact h.2.2 i hi
theorem RowB.set (h : RowB w g off t C F) {i : Nat} (hi : i < F.length) (b : Bool) : RowB (w.setCell ⟨g, off + i, none⟩ (.bool b)) g off t (C.setIfInBounds (off + i) (.bool b)) (F.set i b) := by
  refine ⟨h.1.set _ _, by simpa using h.2.1, fun j hj => ?_⟩
  have hj' : j < F.length := by simpa using hj
  by_cases e : i = j
  · subst e
    rw [Array.getElem?_setIfInBounds_self_of_lt (by have := h.2.1; omega)]
    simp
  · rw [Array.getElem?_setIfInBounds_ne (by omega), h.2.2 j hj', List.getElem_set_ne e]
theorem RowB.set0 (h : RowB w g 0 t C F) {i : Nat} (hi : i < F.length) (b : Bool) : RowB (w.setCell ⟨g, i, none⟩ (.bool b)) g 0 t (C.setIfInBounds i (.bool b)) (F.set i b) := by
  have := h.set hi b
  simpa using this
theorem RowB.cell0 (h : RowB w g 0 t C F) {i : Nat} {b : Bool} (hi : F[i]? = some b) : w.cell? ⟨g, i, none⟩ = some (.bool b) := by
  obtain ⟨hl, e⟩ := List.getElem?_eq_some_iff.1 hi
  have := h.cell hl
  rw [e] at this
  simpa using this
theorem RowB.cellq (h : RowB w g off t C F) {i : Nat} {b : Bool} (hi : F[i]? = some b) : w.cell? ⟨g, off + i, none⟩ = some (.bool b) := by
  obtain ⟨hl, e⟩ := List.getElem?_eq_some_iff.1 hi
  have := h.cell hl
  rw [e] at this
  exact this
theorem RowB.sr (h : RowB w g off t C F) {lo c : Nat} (hlo : lo ≤ g) (h1 : F.length ≤ c) (h2 : c ≤ maxLen) : SR shB w lo w.heap.size (some ⟨g, off, none⟩) c F := by
  refine ⟨h1, h2, fun _ => ⟨g, off, rfl, hlo, h.1.lt, fun i hi => ⟨[.bool F[i]], ⟨rfl, fun j hj => ?_⟩, rfl⟩⟩⟩
  obtain rfl : j = 0 := by have : j < 1 := hj; omega
  have := h.cell hi
  simpa [shB] using this
theorem RowB.of_own {lo hi : Nat} {A : Option Addr} {c : Nat} {bl : List Nat} (h : SO shB w lo hi A c F bl) (hp : 0 < F.length) : ∃ (g off : Nat) (t : TypeId) (C : Array Value), A = some ⟨g, off, none⟩ ∧ lo ≤ g ∧ g < hi ∧ RowB w g off t C F ∧ F.length ≤ c ∧ c ≤ maxLen := by
  rcases h.2.2 with ⟨rfl, _⟩ | ⟨g, off, C, tid, bls, hA, h1, h2, h3, h4, h5, h6, h7⟩
  · simp at hp
  · refine ⟨g, off, tid, C, hA, h1, h2, ⟨h3, ?_, fun i hi => ?_⟩, h.1, h.2.1⟩
    · have := h.1
      have e : c * shB.size = c := Nat.mul_one c
      omega
    · obtain ⟨cs, b, _, hl, hc, rfl, _⟩ := h7 i hi
      have := hc 0 Nat.one_pos
      simpa [shB] using this
end
theorem made_at (z : Value) (n i : Nat) (h : i < n) : (madeCells #[z] n)[i]? = some z := by
  have h1 := toList_madeCells_one z n
  have h2 : (madeCells #[z] n)[i]? = (madeCells #[z] n).toList[i]? := by simp
  rw [h2, h1]
  simp [h]
theorem RowB.made (w : World) (n : Nat) (t : TypeId) : RowB (w.alloc (.cells (madeCells #[.bool false] n) t)) w.heap.size 0 t (madeCells #[.bool false] n) (List.replicate n false) :=
  ⟨Bk.new _ _ _, by simp [size_madeCells], fun i hi => by
    have hn : i < n := by simpa using hi
    rw [Nat.zero_add, made_at _ _ _ hn]
    simp⟩
theorem SR.at_B {w : World} {lo hi : Nat} {A : Option Addr} {c : Nat} {xs : List Bool} (h : SR shB w lo hi A c xs) {i : Nat} (hi' : i < xs.length) :
    ∃ g off, A = some ⟨g, off, none⟩ ∧ lo ≤ g ∧ g < hi ∧ w.cell? ⟨g, off + i, none⟩ = some (.bool xs[i]) := by
  obtain ⟨g, off, cs, hA, h1, h2, hc, rfl⟩ := h.at_ hi'
  have := hc.2 0 Nat.one_pos
  exact ⟨g, off, hA, h1, h2, by simpa [shB] using this⟩
theorem SR.upB {w w' : World} {A : Option Addr} {c : Nat} {xs : List Bool} (h : SRW shB w A c xs) (k : Up w w') : SRW shB w' A c xs := h.up good_B k
/-- A set of places, in new memory. -/
def SetR (N : Nat) (R : Nat → Nat → Prop) (F : List Bool) (w : World) (e : Ending) (w' : World) : Prop :=
  ∃ D d G, e = .returned (.slice D G.length d) ∧ SR shB w' w.heap.size w'.heap.size D d G ∧ Set_ N R F G ∧ Up w w'
theorem info_boolV : (Try.prog.info? 4).map (fun i => (i.zero, i.size, i.bytes)) = some (some (.bool false), 1, 1) := by kernel_rfl
theorem run_make_bools (n : Nat) (hn : n ≤ 1000000) (m : Int) (hm : m = (n : Int)) (w : World) : (Instr.makeSlice 69 (.int .i64 m) (.int .i64 m)).run Try.prog w = .ok (.slice (some ⟨w.heap.size, 0, none⟩) n n) (w.alloc (.cells (madeCells #[.bool false] n) 4)) := by
  subst hm
  obtain ⟨i0, hi0, hz0, hz1, hz2⟩ := info_parts info_boolV
  have h := run_make_rows (P := Try.prog) 69 4 i0 _ Try.underlying69 hi0 hz0 n (by rw [hz2]; omega) (by omega) w
  rw [hz1, Nat.mul_one] at h
  exact h

/-! ### Classes of bytes -/
theorem v_int (c : UInt8) : 0 ≤ (c.toNat : Int) ∧ (c.toNat : Int) ≤ 255 := by have := c.toNat_lt; omega
theorem u8_val {c : UInt8} {n : Nat} (h : n < 256) : c = UInt8.ofNat n ↔ c.toNat = n := by
  constructor
  · rintro rfl; simp; omega
  · intro e; apply UInt8.toNat_inj.1; simp; omega
theorem vc_isDigit (c : UInt8) (w : World) : Calls Try.prog 113 #[.int .u8 (c.toNat : Int)] w fun e w' => e = .returned (.bool (vDig c)) ∧ w = w' := by
  unfold vDig
  by_cases h1 : 48 ≤ c.toNat
  · have h1' : (48 : Int) ≤ (c.toNat : Int) := by omega
    by_cases h2 : c.toNat ≤ 57
    · have h2' : (c.toNat : Int) ≤ 57 := by omega
      go_enter Try.func113, Try.ntmps113
      go_wp2
      go_ret
      exact ⟨by simp [h1, h2], rfl⟩
    · have h2' : ¬ (c.toNat : Int) ≤ 57 := by omega
      go_enter Try.func113, Try.ntmps113
      go_wp2
      go_ret
      exact ⟨by simp [h1, h2], rfl⟩
  · have h1' : ¬ (48 : Int) ≤ (c.toNat : Int) := by omega
    go_enter Try.func113, Try.ntmps113
    go_wp2
    go_ret
    exact ⟨by simp [h1], rfl⟩
theorem vc_l01Digit (c : UInt8) (w : World) : Calls Try.prog 110 #[.int .u8 (c.toNat : Int)] w fun e w' => e = .returned (.bool (vDig c)) ∧ w = w' := by
  unfold vDig
  by_cases h1 : 48 ≤ c.toNat
  · have h1' : (48 : Int) ≤ (c.toNat : Int) := by omega
    by_cases h2 : c.toNat ≤ 57
    · have h2' : (c.toNat : Int) ≤ 57 := by omega
      go_enter Try.func110, Try.ntmps110
      go_wp2
      go_ret
      exact ⟨by simp [h1, h2], rfl⟩
    · have h2' : ¬ (c.toNat : Int) ≤ 57 := by omega
      go_enter Try.func110, Try.ntmps110
      go_wp2
      go_ret
      exact ⟨by simp [h1, h2], rfl⟩
  · have h1' : ¬ (48 : Int) ≤ (c.toNat : Int) := by omega
    go_enter Try.func110, Try.ntmps110
    go_wp2
    go_ret
    exact ⟨by simp [h1], rfl⟩
theorem vc_l02Letter (c : UInt8) (w : World) : Calls Try.prog 109 #[.int .u8 (c.toNat : Int)] w fun e w' => e = .returned (.bool (vLet c)) ∧ w = w' := by
  unfold vLet vLow vUp
  by_cases h1 : 97 ≤ c.toNat
  · by_cases h2 : c.toNat ≤ 122
    · have h1' : (97 : Int) ≤ (c.toNat : Int) := by omega
      have h2' : (c.toNat : Int) ≤ 122 := by omega
      go_enter Try.func109, Try.ntmps109
      go_wp2
      go_ret
      exact ⟨by simp [h1, h2], rfl⟩
    · have h1' : (97 : Int) ≤ (c.toNat : Int) := by omega
      have h2' : ¬ (c.toNat : Int) ≤ 122 := by omega
      have h3 : ¬ (c.toNat : Int) ≤ 90 := by omega
      have h3' : ¬ c.toNat ≤ 90 := by omega
      go_enter Try.func109, Try.ntmps109
      go_wp2
      go_ret
      exact ⟨by simp [h1, h2, h3'], rfl⟩
  · have h1' : ¬ (97 : Int) ≤ (c.toNat : Int) := by omega
    by_cases h3 : 65 ≤ c.toNat
    · by_cases h4 : c.toNat ≤ 90
      · have h3' : (65 : Int) ≤ (c.toNat : Int) := by omega
        have h4' : (c.toNat : Int) ≤ 90 := by omega
        go_enter Try.func109, Try.ntmps109
        go_wp2
        go_ret
        exact ⟨by simp [h1, h3, h4], rfl⟩
      · have h3' : (65 : Int) ≤ (c.toNat : Int) := by omega
        have h4' : ¬ (c.toNat : Int) ≤ 90 := by omega
        go_enter Try.func109, Try.ntmps109
        go_wp2
        go_ret
        exact ⟨by simp [h1, h3, h4], rfl⟩
    · have h3' : ¬ (65 : Int) ≤ (c.toNat : Int) := by omega
      go_enter Try.func109, Try.ntmps109
      go_wp2
      go_ret
      exact ⟨by simp [h1, h3], rfl⟩

/-- The parts of the bytes that the codes tell apart. -/
theorem byte_parts (c : UInt8) : (c.toNat < 32) ∨ (32 ≤ c.toNat ∧ c.toNat < 65) ∨ (65 ≤ c.toNat ∧ c.toNat ≤ 90) ∨ (90 < c.toNat ∧ c.toNat < 97) ∨ (97 ≤ c.toNat ∧ c.toNat ≤ 122) ∨ (122 < c.toNat ∧ c.toNat < 127) ∨ c.toNat = 127 ∨ 127 < c.toNat := by omega
theorem code_parts (k : UInt8) : k = 65 ∨ k = 67 ∨ k = 69 ∨ k = 76 ∨ k = 78 ∨ k = 80 ∨ k = 85 ∨ (k ≠ 65 ∧ k ≠ 67 ∧ k ≠ 69 ∧ k ≠ 76 ∧ k ≠ 78 ∧ k ≠ 80 ∧ k ≠ 85) := by
  by_cases h1 : k = 65 <;> by_cases h2 : k = 67 <;> by_cases h3 : k = 69 <;> by_cases h4 : k = 76 <;> by_cases h5 : k = 78 <;> by_cases h6 : k = 80 <;> by_cases h7 : k = 85 <;> simp [h1, h2, h3, h4, h5, h6, h7]
theorem v_ne {k d : UInt8} (z : Int) (hz : z = (d.toNat : Int)) (h : k ≠ d) : ((k.toNat : Int) == z) = false := by
  rw [beq_eq_false_iff_ne, hz]
  intro e
  exact h (UInt8.toNat_inj.1 (by omega))
end Go.Proofs.Ytgdcdfpnogiciaa
