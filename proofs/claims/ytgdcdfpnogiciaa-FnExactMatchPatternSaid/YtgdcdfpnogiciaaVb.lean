/-
  Patterns: which are valid, and what they match, as relations between places of a string. No program is named here.
-/
import Derived.Test.YtgdcdfpnogiciaaVa
namespace Go.Proofs.Ytgdcdfpnogiciaa
open Go.RowKit
set_option linter.unusedVariables false
set_option linter.unusedSimpArgs false

/-! ### Codes -/
def vLow (c : UInt8) : Bool := decide (97 ≤ c.toNat) && decide (c.toNat ≤ 122)
def vUp (c : UInt8) : Bool := decide (65 ≤ c.toNat) && decide (c.toNat ≤ 90)
def vLet (c : UInt8) : Bool := vLow c || vUp c
def vDig (c : UInt8) : Bool := decide (48 ≤ c.toNat) && decide (c.toNat ≤ 57)
def inCodeV (k c : UInt8) : Bool :=
  if k = 65 then vLet c else if k = 67 then decide (c.toNat < 32) || decide (c.toNat = 127) else if k = 69 then true else if k = 76 then vLow c else if k = 78 then vDig c
  else if k = 80 then decide (32 ≤ c.toNat) && decide (c.toNat < 127) && !vLet c && !vDig c else if k = 85 then vUp c else false
def isCodeV (c : UInt8) : Bool := c == 65 || c == 67 || c == 69 || c == 76 || c == 78 || c == 80 || c == 85
/-- The codes rise. -/
def risesV (t : ByteArray) : Prop := ∀ (i : Nat) (h : i < t.size), isCodeV t[i] = true ∧ (∀ h0 : 0 < i, (t[i - 1]'(by omega)).toNat < t[i].toNat)

/-! ### Valid patterns -/
section
variable {γ : Type}
abbrev lowV (x : TPattern γ) : Int := x.1
abbrev highV (x : TPattern γ) : Int := x.2.1
abbrev codesV (x : TPattern γ) : ByteArray := x.2.2.1
abbrev textV (x : TPattern γ) : ByteArray := x.2.2.2.1
abbrev altsV (x : TPattern γ) : List (List γ) := x.2.2.2.2
/-- What may stand in an item. -/
def bodyP (okA : List γ → Int → Bool) (x : TPattern γ) (deep : Int) : Prop :=
  if 0 < (altsV x).length then (codesV x = ⟨#[]⟩ ∧ textV x = ⟨#[]⟩ ∧ deep ≠ 0 ∧ ∀ l ∈ altsV x, okA l (deep - 1) = true)
  else if textV x ≠ ⟨#[]⟩ then codesV x = ⟨#[]⟩ else (codesV x ≠ ⟨#[]⟩ ∧ risesV (codesV x))
def itemP (okA : List γ → Int → Bool) (x : TPattern γ) (deep : Int) : Prop :=
  0 ≤ lowV x ∧ lowV x ≤ 99 ∧ (highV x = -1 ∨ lowV x ≤ highV x) ∧ highV x ≤ 99 ∧ (textV x).size ≤ 24 ∧ (altsV x).length ≤ 8 ∧ bodyP okA x deep
open Classical in
noncomputable def itemV (okA : List γ → Int → Bool) (x : TPattern γ) (deep : Int) : Bool := decide (itemP okA x deep)
noncomputable def listV (okA : List γ → Int → Bool) (l : List (TPattern γ)) (deep : Int) : Bool := decide (1 ≤ l.length) && decide (l.length ≤ 8) && l.all fun x => itemV okA x deep
theorem itemV_t {okA : List γ → Int → Bool} {x : TPattern γ} {deep : Int} : itemV okA x deep = true ↔ itemP okA x deep := by simp [itemV]
theorem itemV_f {okA : List γ → Int → Bool} {x : TPattern γ} {deep : Int} : itemV okA x deep = false ↔ ¬ itemP okA x deep := by simp [itemV]
theorem listV_t {okA : List γ → Int → Bool} {l : List (TPattern γ)} {deep : Int} : listV okA l deep = true ↔ (1 ≤ l.length ∧ l.length ≤ 8 ∧ ∀ x ∈ l, itemP okA x deep) := by
  simp [listV, and_assoc, itemV]
end
noncomputable def okPats : (n : Nat) → List (Pat n) → Int → Bool
  | 0, _, _ => false
  | n + 1, l, d => listV (okPats n) l d

/-! ### Relations -/
def Rpow (R : Nat → Nat → Prop) : Nat → Nat → Nat → Prop
  | 0, i, j => i = j
  | k + 1, i, j => ∃ m, Rpow R k i m ∧ R m j
structure Fwd (N : Nat) (R : Nat → Nat → Prop) : Prop where
  mono : ∀ i j, R i j → i ≤ j
  top : ∀ i j, R i j → i ≤ N → j ≤ N
theorem Rpow_fwd {N : Nat} {R : Nat → Nat → Prop} (h : Fwd N R) : ∀ k, Fwd N (Rpow R k)
  | 0 => ⟨fun i j e => Nat.le_of_eq e, fun i j e hi => by rw [← (show i = j from e)]; exact hi⟩
  | k + 1 => ⟨fun i j ⟨m, h1, h2⟩ => Nat.le_trans ((Rpow_fwd h k).mono _ _ h1) (h.mono _ _ h2), fun i j ⟨m, h1, h2⟩ hi => h.top _ _ h2 ((Rpow_fwd h k).top _ _ h1 hi)⟩
theorem Rpow_short {R : Nat → Nat → Prop} (h : ∀ i j, R i j → i ≤ j) : ∀ k i j, Rpow R k i j → j - i < k → Rpow R (k - 1) i j
  | 0, i, j, _, hlt => absurd hlt (by omega)
  | k + 1, i, j, ⟨m, h1, h2⟩, hlt => by
    have hm := h m j h2
    by_cases e : m = j
    · subst e; exact h1
    · have hi : ∀ k i m, Rpow R k i m → i ≤ m := by
        intro k
        induction k with
        | zero => intro i m e; exact Nat.le_of_eq e
        | succ k ih => intro i m ⟨q, q1, q2⟩; exact Nat.le_trans (ih i q q1) (h q m q2)
      have him := hi k i m h1
      have h3 := Rpow_short h k i m h1 (by omega)
      have hk : k = k - 1 + 1 := by omega
      show Rpow R k i j
      rw [hk]
      exact ⟨m, h3, h2⟩
theorem Rpow_cut {N lo : Nat} {R : Nat → Nat → Prop} (h : ∀ i j, R i j → i ≤ j) (d : Nat) : ∀ k i j, k = lo + N + d → Rpow R k i j → j ≤ N → ∃ k', lo ≤ k' ∧ k' ≤ lo + N ∧ Rpow R k' i j := by
  induction d with
  | zero => intro k i j hk hr hj; exact ⟨k, by omega, by omega, hr⟩
  | succ d ih =>
    intro k i j hk hr hj
    exact ih (k - 1) i j (by omega) (Rpow_short h k i j hr (by omega)) hj
/-- An item that stands so many times. -/
def Ritem (R : Nat → Nat → Prop) (lo hi : Int) (i j : Nat) : Prop := ∃ k : Nat, lo ≤ (k : Int) ∧ (hi < 0 ∨ (k : Int) ≤ hi) ∧ Rpow R k i j
theorem Ritem_fwd {N : Nat} {R : Nat → Nat → Prop} (h : Fwd N R) (lo hi : Int) : Fwd N (Ritem R lo hi) :=
  ⟨fun i j ⟨k, _, _, h1⟩ => (Rpow_fwd h k).mono _ _ h1, fun i j ⟨k, _, _, h1⟩ => (Rpow_fwd h k).top _ _ h1⟩
/-- One after the other. -/
def Rall {α : Type} (I : α → Nat → Nat → Prop) : List α → Nat → Nat → Prop
  | [], i, j => i = j
  | x :: xs, i, j => ∃ m, I x i m ∧ Rall I xs m j
theorem Rall_snoc {α : Type} (I : α → Nat → Nat → Prop) (x : α) : ∀ (xs : List α) (i j : Nat), Rall I (xs ++ [x]) i j ↔ ∃ m, Rall I xs i m ∧ I x m j
  | [], i, j => by
    show (∃ m, I x i m ∧ m = j) ↔ ∃ m, i = m ∧ I x m j
    constructor
    · rintro ⟨m, h, rfl⟩; exact ⟨i, rfl, h⟩
    · rintro ⟨m, rfl, h⟩; exact ⟨j, h, rfl⟩
  | y :: ys, i, j => by
    show (∃ m, I y i m ∧ Rall I (ys ++ [x]) m j) ↔ ∃ m, (∃ q, I y i q ∧ Rall I ys q m) ∧ I x m j
    constructor
    · rintro ⟨m, h1, h2⟩
      obtain ⟨q, h3, h4⟩ := (Rall_snoc I x ys m j).1 h2
      exact ⟨q, ⟨m, h1, h3⟩, h4⟩
    · rintro ⟨q, ⟨m, h1, h3⟩, h4⟩
      exact ⟨m, h1, (Rall_snoc I x ys m j).2 ⟨q, h3, h4⟩⟩
theorem Rall_fwd {α : Type} {N : Nat} {I : α → Nat → Nat → Prop} : ∀ (xs : List α), (∀ x ∈ xs, Fwd N (I x)) → Fwd N (Rall I xs)
  | [], _ => ⟨fun i j e => Nat.le_of_eq e, fun i j e hi => by rw [← (show i = j from e)]; exact hi⟩
  | x :: xs, h => ⟨fun i j ⟨m, h1, h2⟩ => Nat.le_trans ((h x (by simp)).mono _ _ h1) ((Rall_fwd xs fun y hy => h y (by simp [hy])).mono _ _ h2),
      fun i j ⟨m, h1, h2⟩ hi => (Rall_fwd xs fun y hy => h y (by simp [hy])).top _ _ h2 ((h x (by simp)).top _ _ h1 hi)⟩
/-- An item, once. -/
def Ronce {γ : Type} (A : List γ → Nat → Nat → Prop) (s : ByteArray) (x : TPattern γ) (i j : Nat) : Prop :=
  if 0 < (altsV x).length then ∃ l ∈ altsV x, A l i j
  else if 0 < (textV x).size then (j = i + (textV x).size ∧ j ≤ s.size ∧ s.extract i j = textV x)
  else (j = i + 1 ∧ ∃ h : i < s.size, ∃ (q : Nat) (hq : q < (codesV x).size), inCodeV (codesV x)[q] s[i] = true)
theorem Ronce_fwd {γ : Type} {A : List γ → Nat → Nat → Prop} {s : ByteArray} {x : TPattern γ} (h : ∀ l ∈ altsV x, Fwd s.size (A l)) : Fwd s.size (Ronce A s x) := by
  unfold Ronce
  constructor
  · intro i j
    split
    · rintro ⟨l, hl, h1⟩; exact (h l hl).mono _ _ h1
    · split
      · rintro ⟨rfl, _⟩; omega
      · rintro ⟨rfl, _⟩; omega
  · intro i j
    split
    · rintro ⟨l, hl, h1⟩ hi; exact (h l hl).top _ _ h1 hi
    · split
      · rintro ⟨_, h1, _⟩ _; exact h1
      · rintro ⟨rfl, h1, _⟩ _; omega
abbrev RI {γ : Type} (A : List γ → Nat → Nat → Prop) (s : ByteArray) (x : TPattern γ) : Nat → Nat → Prop := Ritem (Ronce A s x) (lowV x) (highV x)
def Rpats : (n : Nat) → ByteArray → List (Pat n) → Nat → Nat → Prop
  | 0, _, _ => fun i j => i = j
  | n + 1, s, l => Rall (RI (Rpats n s) s) l
theorem Rpats_fwd (s : ByteArray) : ∀ (n : Nat) (l : List (Pat n)), Fwd s.size (Rpats n s l)
  | 0, _ => ⟨fun i j e => Nat.le_of_eq e, fun i j e hi => by rw [← (show i = j from e)]; exact hi⟩
  | n + 1, l => Rall_fwd l fun x _ => Ritem_fwd (Ronce_fwd fun a _ => Rpats_fwd s n a) _ _

/-! ### Sets of places as rows of bools -/
def Img (R : Nat → Nat → Prop) (F : List Bool) (j : Nat) : Prop := ∃ i, F[i]? = some true ∧ R i j
theorem Img_top {N : Nat} {R : Nat → Nat → Prop} (h : Fwd N R) {F : List Bool} (hF : F.length = N + 1) {j : Nat} (hj : Img R F j) : j ≤ N := by
  obtain ⟨i, h1, h2⟩ := hj
  have hi : i < F.length := by
    rcases Nat.lt_or_ge i F.length with h | h
    · exact h
    · rw [List.getElem?_eq_none h] at h1; cases h1
  exact h.top _ _ h2 (by omega)
/-- G holds what R reaches from F. -/
def Set_ (N : Nat) (R : Nat → Nat → Prop) (F G : List Bool) : Prop := G.length = N + 1 ∧ ∀ j, G[j]? = some true ↔ Img R F j
theorem Set_.refl {N : Nat} {F : List Bool} (h : F.length = N + 1) : Set_ N (fun i j => i = j) F F :=
  ⟨h, fun j => ⟨fun hj => ⟨j, hj, rfl⟩, fun ⟨i, hi, e⟩ => by rw [← (show i = j from e)]; exact hi⟩⟩
theorem Set_.comp {N : Nat} {R S T : Nat → Nat → Prop} {F G H : List Bool} (h1 : Set_ N R F G) (h2 : Set_ N S G H) (hT : ∀ i j, T i j ↔ ∃ m, R i m ∧ S m j) : Set_ N T F H :=
  ⟨h2.1, fun j => by
    rw [h2.2 j]
    constructor
    · rintro ⟨m, hm, hs⟩
      obtain ⟨i, hi, hr⟩ := (h1.2 m).1 hm
      exact ⟨i, hi, (hT i j).2 ⟨m, hr, hs⟩⟩
    · rintro ⟨i, hi, ht⟩
      obtain ⟨m, hr, hs⟩ := (hT i j).1 ht
      exact ⟨m, (h1.2 m).2 ⟨i, hi, hr⟩, hs⟩⟩
theorem Set_.same {N : Nat} {R S : Nat → Nat → Prop} {F G : List Bool} (h : Set_ N R F G) (hS : ∀ i j, S i j ↔ R i j) : Set_ N S F G :=
  ⟨h.1, fun j => (h.2 j).trans ⟨fun ⟨i, a, b⟩ => ⟨i, a, (hS i j).2 b⟩, fun ⟨i, a, b⟩ => ⟨i, a, (hS i j).1 b⟩⟩⟩
theorem Set_.next {N : Nat} {R : Nat → Nat → Prop} {F G H : List Bool} {k : Nat} (h1 : Set_ N (Rpow R k) F G) (h2 : Set_ N R G H) : Set_ N (Rpow R (k + 1)) F H := h1.comp h2 fun i j => Iff.rfl
theorem Set_.zero {N : Nat} {R : Nat → Nat → Prop} {F : List Bool} (h : F.length = N + 1) : Set_ N (Rpow R 0) F F := Set_.refl h
/-- From lo times to k times. -/
def Rto (R : Nat → Nat → Prop) (lo k : Nat) (i j : Nat) : Prop := ∃ q, lo ≤ q ∧ q ≤ k ∧ Rpow R q i j
/-- The union of two sets. -/
def orL (F G : List Bool) : List Bool := List.zipWith (fun a b => a || b) F G
theorem orL_len {F G : List Bool} (h : F.length = G.length) : (orL F G).length = F.length := by simp [orL, h]
theorem orL_at {F G : List Bool} (h : F.length = G.length) (j : Nat) : (orL F G)[j]? = some true ↔ F[j]? = some true ∨ G[j]? = some true := by
  unfold orL
  rw [List.getElem?_zipWith]
  rcases Nat.lt_or_ge j F.length with hj | hj
  · rw [List.getElem?_eq_getElem hj, List.getElem?_eq_getElem (by omega)]
    simp
  · rw [List.getElem?_eq_none hj, List.getElem?_eq_none (by omega)]
    simp
theorem Set_.start {N : Nat} {R : Nat → Nat → Prop} {F G : List Bool} {lo : Nat} (h : Set_ N (Rpow R lo) F G) : Set_ N (Rto R lo lo) F G :=
  h.same fun i j => ⟨fun ⟨q, h1, h2, h3⟩ => by rw [show lo = q by omega]; exact h3, fun h3 => ⟨lo, Nat.le_refl _, Nat.le_refl _, h3⟩⟩
theorem Set_.more {N : Nat} {R : Nat → Nat → Prop} {F G H : List Bool} {lo k : Nat} (hk : lo ≤ k) (h1 : Set_ N (Rto R lo k) F G) (h2 : Set_ N (Rpow R (k + 1)) F H) : Set_ N (Rto R lo (k + 1)) F (orL G H) := by
  have hl : G.length = H.length := h1.1.trans h2.1.symm
  refine ⟨(orL_len hl).trans h1.1, fun j => ?_⟩
  rw [orL_at hl, h1.2, h2.2]
  constructor
  · rintro (⟨i, hi, q, a, b, c⟩ | ⟨i, hi, c⟩)
    · exact ⟨i, hi, q, a, by omega, c⟩
    · exact ⟨i, hi, k + 1, by omega, Nat.le_refl _, c⟩
  · rintro ⟨i, hi, q, a, b, c⟩
    by_cases e : q = k + 1
    · subst e; exact .inr ⟨i, hi, c⟩
    · exact .inl ⟨i, hi, q, a, by omega, c⟩
/-- No new place: all that follows is there. -/
theorem Set_.closed {N : Nat} {R : Nat → Nat → Prop} {F G H : List Bool} {lo k : Nat} (hk : lo ≤ k) (h1 : Set_ N (Rto R lo k) F G) (h2 : Set_ N (Rpow R (k + 1)) F H) (hs : ∀ j : Nat, H[j]? = some true → G[j]? = some true) :
    Set_ N (fun i j => ∃ q, lo ≤ q ∧ Rpow R q i j) F G := by
  refine ⟨h1.1, fun j => ?_⟩
  constructor
  · intro hj
    obtain ⟨i, hi, q, a, b, c⟩ := (h1.2 j).1 hj
    exact ⟨i, hi, q, a, c⟩
  · have step : ∀ q, lo ≤ q → ∀ i j, F[i]? = some true → Rpow R q i j → G[j]? = some true := by
      intro q
      induction q with
      | zero => intro hq i j hi hr; exact (h1.2 j).2 ⟨i, hi, 0, hq, by omega, hr⟩
      | succ q ih =>
        intro hq i j hi hr
        by_cases hql : lo ≤ q
        · obtain ⟨m, hm, hmj⟩ := hr
          have hG := ih hql i m hi hm
          obtain ⟨i', hi', q', a, b, c⟩ := (h1.2 m).1 hG
          by_cases e : q' = k
          · subst e
            exact hs j ((h2.2 j).2 ⟨i', hi', m, c, hmj⟩)
          · exact (h1.2 j).2 ⟨i', hi', q' + 1, by omega, by omega, m, c, hmj⟩
        · exact (h1.2 j).2 ⟨i, hi, q + 1, hq, by omega, hr⟩
    rintro ⟨i, hi, q, a, c⟩
    exact step q a i j hi c
theorem Set_.open_end {N : Nat} {R : Nat → Nat → Prop} {F G : List Bool} {lo hi : Int} {l : Nat} (hl : lo = (l : Int)) (hh : hi < 0) (h : Set_ N (fun i j => ∃ q, l ≤ q ∧ Rpow R q i j) F G) : Set_ N (Ritem R lo hi) F G :=
  h.same fun i j => ⟨fun ⟨q, a, _, c⟩ => ⟨q, by omega, c⟩, fun ⟨q, a, c⟩ => ⟨q, by omega, .inl hh, c⟩⟩
theorem Set_.to_end {N : Nat} {R : Nat → Nat → Prop} {F G : List Bool} {lo hi : Int} {l k : Nat} (hl : lo = (l : Int)) (hh : hi = (k : Int)) (h : Set_ N (Rto R l k) F G) : Set_ N (Ritem R lo hi) F G :=
  h.same fun i j => ⟨fun ⟨q, a, b, c⟩ => ⟨q, by omega, by omega, c⟩, fun ⟨q, a, b, c⟩ => ⟨q, by omega, .inr (by omega), c⟩⟩
theorem Set_.size_end {N : Nat} {R : Nat → Nat → Prop} {F G : List Bool} {lo hi : Int} {l : Nat} (hl : lo = (l : Int)) (hh : hi < 0) (hR : Fwd N R) (hF : F.length = N + 1) (h : Set_ N (Rto R l (l + N)) F G) : Set_ N (Ritem R lo hi) F G := by
  refine ⟨h.1, fun j => (h.2 j).trans ⟨fun ⟨i, hi, q, a, b, c⟩ => ⟨i, hi, q, by omega, .inl hh, c⟩, ?_⟩⟩
  rintro ⟨i, hi, q, a, _, c⟩
  have hj := Img_top (Rpow_fwd hR q) hF ⟨i, hi, c⟩
  by_cases e : q ≤ l + N
  · exact ⟨i, hi, q, by omega, e, c⟩
  · obtain ⟨q', a', b', c'⟩ := Rpow_cut (lo := l) hR.mono (q - (l + N)) q i j (by omega) c hj
    exact ⟨i, hi, q', a', b', c'⟩
/-- F with its first q places joined with G's. -/
def mixB (F G : List Bool) (q : Nat) : List Bool := (orL F G).take q ++ F.drop q
theorem mixB_zero (F G : List Bool) : mixB F G 0 = F := by simp [mixB]
theorem mixB_len {F G : List Bool} (h : F.length = G.length) {q : Nat} (hq : q ≤ F.length) : (mixB F G q).length = F.length := by
  simp [mixB, orL_len h]; omega
theorem mixB_all {F G : List Bool} (h : F.length = G.length) {q : Nat} (hq : F.length ≤ q) : mixB F G q = orL F G := by
  unfold mixB
  rw [List.take_of_length_le (by rw [orL_len h]; exact hq), List.drop_of_length_le hq, List.append_nil]
theorem mixB_at {F G : List Bool} (h : F.length = G.length) {q : Nat} (hq : q < F.length) : (mixB F G q)[q]? = F[q]? := by
  have hl : ((orL F G).take q).length = q := by rw [List.length_take, orL_len h]; omega
  unfold mixB
  rw [List.getElem?_append_right (by omega), hl, Nat.sub_self, List.getElem?_drop]
  simp
theorem orL_get {F G : List Bool} (h : F.length = G.length) {q : Nat} (hq : q < F.length) : (orL F G)[q]'(by rw [orL_len h]; exact hq) = (F[q] || G[q]'(by omega)) := by
  simp [orL]
theorem mixB_set {F G : List Bool} (h : F.length = G.length) {q : Nat} (hq : q < F.length) : (mixB F G q).set q (F[q] || G[q]'(by omega)) = mixB F G (q + 1) := by
  have hl : ((orL F G).take q).length = q := by rw [List.length_take, orL_len h]; omega
  unfold mixB
  rw [List.set_append_right _ _ (by omega), hl, Nat.sub_self, List.drop_eq_getElem_cons hq, List.set_cons_zero,
    List.take_succ_eq_append_getElem (by rw [orL_len h]; exact hq), orL_get h hq, List.append_assoc]
  rfl
/-- What the places before k give. -/
def Upto (R : Nat → Nat → Prop) (F : List Bool) (k j : Nat) : Prop := ∃ i, i < k ∧ F[i]? = some true ∧ R i j
theorem Upto_zero (R : Nat → Nat → Prop) (F : List Bool) (j : Nat) : ¬ Upto R F 0 j := fun ⟨_, h, _⟩ => absurd h (by omega)
theorem Upto_no {R : Nat → Nat → Prop} {F : List Bool} {k : Nat} (h : ¬ F[k]? = some true) (j : Nat) : Upto R F (k + 1) j ↔ Upto R F k j := by
  constructor
  · rintro ⟨i, hi, a, b⟩
    rcases Nat.lt_or_ge i k with q | q
    · exact ⟨i, q, a, b⟩
    · obtain rfl : i = k := by omega
      exact absurd a h
  · rintro ⟨i, hi, a, b⟩
    exact ⟨i, by omega, a, b⟩
theorem Upto_yes {R : Nat → Nat → Prop} {F : List Bool} {k : Nat} (h : F[k]? = some true) (j : Nat) : Upto R F (k + 1) j ↔ (Upto R F k j ∨ R k j) := by
  constructor
  · rintro ⟨i, hi, a, b⟩
    rcases Nat.lt_or_ge i k with q | q
    · exact .inl ⟨i, q, a, b⟩
    · obtain rfl : i = k := by omega
      exact .inr b
  · rintro (⟨i, hi, a, b⟩ | b)
    · exact ⟨i, by omega, a, b⟩
    · exact ⟨k, by omega, h, b⟩
theorem Upto_all {R : Nat → Nat → Prop} {F : List Bool} {k : Nat} (hk : F.length ≤ k) (j : Nat) : Upto R F k j ↔ Img R F j := by
  constructor
  · rintro ⟨i, _, a, b⟩
    exact ⟨i, a, b⟩
  · rintro ⟨i, a, b⟩
    refine ⟨i, ?_, a, b⟩
    rcases Nat.lt_or_ge i F.length with q | q
    · omega
    · rw [List.getElem?_eq_none q] at a; cases a
theorem set_true {G : List Bool} {m : Nat} (hm : m < G.length) (j : Nat) : (G.set m true)[j]? = some true ↔ (G[j]? = some true ∨ j = m) := by
  by_cases e : m = j
  · subst e; simp [hm]
  · rw [List.getElem?_set_ne e]
    exact ⟨.inl, fun h => h.resolve_right (fun q => e q.symm)⟩
theorem repl_false (n j : Nat) : ¬ (List.replicate n false)[j]? = some true := by
  rcases Nat.lt_or_ge j n with h | h
  · simp [h]
  · rw [List.getElem?_eq_none (by simpa using h)]; simp
end Go.Proofs.Ytgdcdfpnogiciaa
