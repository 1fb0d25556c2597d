/-
  Numbers and their texts, and the order of places: definitions over lists of bytes, and their plain laws. No program is named here.
-/
import Derived.Test.YtghphlfihakadaaGreatDoorRep2
import Derived.Lib.SlTrimSet
import Derived.Lib.ItoaLen
namespace Go.Proofs.YtghphlfihakadaaGreatDoor
open Go.RowKit
set_option linter.unusedVariables false
set_option linter.unusedSimpArgs false

/-! ### Lists: where a class of bytes ends -/
section
variable {α : Type}
theorem tw_all (p : α → Bool) : ∀ (l : List α) (i : Nat) (h : i < (l.takeWhile p).length), ∃ h' : i < l.length, p l[i] = true
  | [], i, h => absurd h (by simp)
  | x :: l, i, h => by
    by_cases hx : p x = true
    · rw [List.takeWhile_cons_of_pos hx] at h
      cases i with
      | zero => exact ⟨by simp, by simpa using hx⟩
      | succ i =>
        obtain ⟨h1, h2⟩ := tw_all p l i (by simpa using h)
        exact ⟨by simpa using h1, by simpa using h2⟩
    · rw [List.takeWhile_cons_of_neg hx] at h
      exact absurd h (by simp)
theorem tw_stop (p : α → Bool) : ∀ (l : List α) (h : (l.takeWhile p).length < l.length), p l[(l.takeWhile p).length] = false
  | [], h => absurd h (by simp)
  | x :: l, h => by
    by_cases hx : p x = true
    · have e := List.takeWhile_cons_of_pos (l := l) hx
      have h' : (l.takeWhile p).length < l.length := by rw [e] at h; simpa using h
      have := tw_stop p l h'
      have e2 : ((x :: l).takeWhile p).length = (l.takeWhile p).length + 1 := by rw [e]; rfl
      simp only [e2]
      simpa using this
    · have e2 : ((x :: l).takeWhile p).length = 0 := by rw [List.takeWhile_cons_of_neg hx]; rfl
      simp only [e2]
      simpa using hx
theorem tw_le (p : α → Bool) (l : List α) : (l.takeWhile p).length ≤ l.length := (List.takeWhile_prefix p).length_le
theorem tw_take (p : α → Bool) (l : List α) : l.take (l.takeWhile p).length = l.takeWhile p := (List.prefix_iff_eq_take.1 (List.takeWhile_prefix p)).symm
theorem dw_drop (p : α → Bool) (l : List α) : l.drop (l.takeWhile p).length = l.dropWhile p := by
  have := List.drop_left' (l₁ := l.takeWhile p) (l₂ := l.dropWhile p) (i := (l.takeWhile p).length) rfl
  rwa [List.takeWhile_append_dropWhile] at this
theorem tw_at (p : α → Bool) (l : List α) (i : Nat) (h : i < (l.takeWhile p).length) (h' : i < l.length) : (l.takeWhile p)[i] = l[i] := by
  have := List.getElem_take (xs := l) (i := i) (j := (l.takeWhile p).length) (h := by rw [List.length_take]; omega)
  rw [← this]
  simp only [tw_take]
theorem tw_iff (p : α → Bool) (l : List α) (i : Nat) (hi : i ≤ (l.takeWhile p).length) : i < (l.takeWhile p).length ↔ ∃ h' : i < l.length, p l[i] = true := by
  refine ⟨tw_all p l i, fun ⟨h1, h2⟩ => ?_⟩
  rcases Nat.lt_or_ge i (l.takeWhile p).length with h | h
  · exact h
  · have e : i = (l.takeWhile p).length := by omega
    subst e
    rw [tw_stop p l h1] at h2
    cases h2
end

/-! ### The number of a text -/
def isSign (c : UInt8) : Bool := c == 43 || c == 45
def isDig (c : UInt8) : Bool := decide (48 ≤ c.toNat) && decide (c.toNat ≤ 57)
def dval (c : UInt8) : Nat := c.toNat - 48
def stepD (n : Nat) (c : UInt8) : Nat := 10 * n + dval c
def valD (l : List UInt8) : Nat := l.foldl stepD 0
abbrev maxNum : Nat := 999999999999999999
def restL (l : List UInt8) : List UInt8 := l.dropWhile isSign
def wholeL (l : List UInt8) : List UInt8 := (restL l).takeWhile isDig
def afterL (l : List UInt8) : List UInt8 := (restL l).dropWhile isDig
def fracOf : List UInt8 → List UInt8
  | [] => []
  | c :: t => if c = 46 then t.takeWhile isDig else []
def fracL (l : List UInt8) : List UInt8 := fracOf (afterL l)
def six (l : List UInt8) : List UInt8 := (l ++ [48, 48, 48, 48, 48, 48]).take 6
def negB (l : List UInt8) : Bool := decide (l.count 45 % 2 = 1)
def negL (l : List UInt8) : Bool := negB (l.takeWhile isSign)
def absL (l : List UInt8) : Nat := min (valD (wholeL l ++ six (fracL l))) maxNum
def numOf (s : ByteArray) : Int := if negL s.data.toList = true then -(absL s.data.toList : Int) else (absL s.data.toList : Int)
theorem absL_le (l : List UInt8) : absL l ≤ maxNum := Nat.min_le_right _ _
theorem numOf_le (s : ByteArray) : -(999999999999999999 : Int) ≤ numOf s ∧ numOf s ≤ 999999999999999999 := by
  have : absL s.data.toList ≤ 999999999999999999 := absL_le s.data.toList
  unfold numOf
  split <;> omega
theorem isDig_bd {c : UInt8} (h : isDig c = true) : 48 ≤ c.toNat ∧ c.toNat ≤ 57 := by simpa [isDig] using h
theorem dval_le {c : UInt8} (h : isDig c = true) : dval c ≤ 9 := by have := isDig_bd h; unfold dval; omega

theorem foldD_ge (l : List UInt8) : ∀ n : Nat, n ≤ l.foldl stepD n := by
  induction l with
  | nil => intro n; exact Nat.le_refl _
  | cons c l ih => intro n; exact Nat.le_trans (by unfold stepD; omega) (ih (stepD n c))
theorem foldD_mono (l : List UInt8) : ∀ {a b : Nat}, a ≤ b → l.foldl stepD a ≤ l.foldl stepD b := by
  induction l with
  | nil => intro a b h; exact h
  | cons c l ih => intro a b h; exact ih (by unfold stepD; omega)
theorem foldD_pow (l : List UInt8) : ∀ n : Nat, l.foldl stepD n = n * 10 ^ l.length + valD l := by
  induction l with
  | nil => intro n; simp [valD]
  | cons c l ih =>
    intro n
    have h1 := ih (stepD n c)
    have h2 := ih (stepD 0 c)
    show l.foldl stepD (stepD n c) = n * 10 ^ (l.length + 1) + l.foldl stepD (stepD 0 c)
    rw [h1, h2]
    simp only [stepD, Nat.pow_succ, Nat.add_mul, Nat.mul_zero, Nat.zero_add]
    rw [Nat.mul_comm 10 n, Nat.mul_assoc, Nat.mul_comm 10 (10 ^ l.length), Nat.add_assoc]
theorem valD_append (a b : List UInt8) : valD (a ++ b) = valD a * 10 ^ b.length + valD b := by
  unfold valD
  rw [List.foldl_append, foldD_pow]
  rfl
theorem valD_snoc (l : List UInt8) (c : UInt8) : valD (l ++ [c]) = 10 * valD l + dval c := by
  unfold valD
  rw [List.foldl_append]
  rfl
theorem six_len (l : List UInt8) : (six l).length = 6 := by simp [six]
/-- The reckoning of the digits behind the point, each by its own unit. -/
def fracSum : List UInt8 → Nat → Nat
  | [], _ => 0
  | c :: t, u => dval c * u + fracSum t (u / 10)
theorem fracSum_zero (l : List UInt8) : fracSum l 0 = 0 := by
  induction l with
  | nil => rfl
  | cons c t ih => simp [fracSum, ih]
set_option maxRecDepth 10000 in
theorem fracSum_six (l : List UInt8) : valD (six l) = fracSum l 100000 := by
  match l with
  | [] => rfl
  | [a] => simp [six, valD, stepD, fracSum, dval]; omega
  | [a, b] => simp [six, valD, stepD, fracSum, dval]; omega
  | [a, b, c] => simp [six, valD, stepD, fracSum, dval]; omega
  | [a, b, c, d] => simp [six, valD, stepD, fracSum, dval]; omega
  | [a, b, c, d, e] => simp [six, valD, stepD, fracSum, dval]; omega
  | a :: b :: c :: d :: e :: f :: t => simp [six, valD, stepD, fracSum, dval, fracSum_zero]; omega
theorem fracSum_snoc (l : List UInt8) (c : UInt8) : ∀ u, fracSum (l ++ [c]) u = fracSum l u + dval c * (u / 10 ^ l.length) := by
  induction l with
  | nil => intro u; simp [fracSum]
  | cons x l ih =>
    intro u
    simp only [List.cons_append, fracSum, ih, List.length_cons]
    rw [Nat.div_div_eq_div_mul, Nat.pow_succ, Nat.mul_comm 10, Nat.add_assoc]
theorem fracSum_take_succ (l : List UInt8) (u : Nat) {j : Nat} (h : j < l.length) : fracSum (l.take (j + 1)) u = fracSum (l.take j) u + dval l[j] * (u / 10 ^ j) := by
  rw [List.take_succ_eq_append_getElem h, fracSum_snoc, List.length_take, Nat.min_eq_left (Nat.le_of_lt h)]
theorem valD_take_succ (l : List UInt8) {j : Nat} (h : j < l.length) : valD (l.take (j + 1)) = 10 * valD (l.take j) + dval l[j] := by
  rw [List.take_succ_eq_append_getElem h, valD_snoc]
theorem fracSum_le : ∀ (l : List UInt8) (u : Nat), (∀ c ∈ l, dval c ≤ 9) → fracSum l u ≤ 10 * u
  | [], u, _ => Nat.zero_le _
  | c :: t, u, h => by
    have h1 := fracSum_le t (u / 10) (fun x hx => h x (List.mem_cons_of_mem _ hx))
    have h2 := h c List.mem_cons_self
    have h3 : dval c * u ≤ 9 * u := Nat.mul_le_mul_right _ h2
    show dval c * u + fracSum t (u / 10) ≤ 10 * u
    omega
theorem tw_dval (l : List UInt8) : ∀ c ∈ l.takeWhile isDig, dval c ≤ 9 := by
  induction l with
  | nil => intro c hc; simp at hc
  | cons x l ih =>
    intro c hc
    by_cases hx : isDig x = true
    · rw [List.takeWhile_cons_of_pos hx] at hc
      rcases List.mem_cons.1 hc with rfl | hc
      · exact dval_le hx
      · exact ih c hc
    · rw [List.takeWhile_cons_of_neg hx] at hc
      simp at hc
theorem fracOf_dval (l : List UInt8) : ∀ c ∈ fracOf l, dval c ≤ 9 := by
  cases l with
  | nil => intro c hc; simp [fracOf] at hc
  | cons x t =>
    intro c hc
    by_cases h46 : x = 46
    · rw [fracOf, if_pos h46] at hc
      exact tw_dval t c hc
    · rw [fracOf, if_neg h46] at hc
      simp at hc
theorem fracL_sum_le (l : List UInt8) (u : Nat) : fracSum (fracL l) u ≤ 10 * u := fracSum_le _ _ (fracOf_dval _)
/-- The reference's way to cut what is too great. -/
theorem absL_spec (l : List UInt8) : absL l = min (min (min (valD (wholeL l)) 1000000000000 * 1000000) 1000000000000000000 + fracSum (fracL l) 100000) maxNum := by
  have h := fracL_sum_le l 100000
  unfold absL
  rw [valD_append, six_len, fracSum_six]
  simp only [maxNum, show (10 : Nat) ^ 6 = 1000000 by decide]
  omega

/-! ### The text of a number -/
def decT (k : Nat) : List UInt8 := Lib.decDigits k
def wholeT (k : Nat) : List UInt8 := if k = 0 then [] else decT k
def trimZ (l : List UInt8) : List UInt8 := Lib.trimRightB l 48
def fracT (r : Nat) : List UInt8 := if r = 0 then [] else 46 :: trimZ ((decT (1000000 + r)).drop 1)
def posT (k : Nat) : List UInt8 := wholeT (k / 1000000) ++ fracT (k % 1000000)
def textL (n : Int) : List UInt8 := if n = 0 then [48] else if n < 0 then 45 :: posT n.natAbs else posT n.natAbs
def numText (n : Int) : ByteArray := ⟨(textL n).toArray⟩
theorem decT_lt {k : Nat} (h : k < 10) : decT k = [UInt8.ofNat (48 + k)] := by unfold decT; rw [Lib.decDigits, dif_pos h]
theorem decT_ge {k : Nat} (h : ¬ k < 10) : decT k = decT (k / 10) ++ [UInt8.ofNat (48 + k % 10)] := by unfold decT; rw [Lib.decDigits, dif_neg h]
theorem wholeT_step {k : Nat} (h : 0 < k) : wholeT k = wholeT (k / 10) ++ [UInt8.ofNat (48 + k % 10)] := by
  unfold wholeT
  rw [if_neg (by omega)]
  by_cases h10 : k < 10
  · rw [decT_lt h10, if_pos (by omega), Nat.mod_eq_of_lt h10]; rfl
  · rw [decT_ge h10, if_neg (by omega)]
theorem decT_length (k : Nat) (h : k ≤ 9223372036854775808) : (decT k).length ≤ 20 := by
  unfold decT
  rw [Lib.decDigits_length]
  exact Lib.nDigits_le20 k (by omega)
theorem decT_small : ∀ (m k : Nat), k < 10 ^ m → (decT k).length ≤ max m 1
  | 0, k, h => by rw [decT_lt (by simp at h; omega)]; simp
  | m + 1, k, h => by
    by_cases h10 : k < 10
    · rw [decT_lt h10]; simp
    · rw [decT_ge h10]
      have := decT_small m (k / 10) (by rw [Nat.pow_succ] at h; omega)
      simp
      have hm : m ≠ 0 := by rintro rfl; simp at h; omega
      omega
theorem decT_pos (k : Nat) : 0 < (decT k).length := by
  by_cases h10 : k < 10
  · rw [decT_lt h10]; simp
  · rw [decT_ge h10]; simp
/-- Six digits behind the first one of a number between a million and two. -/
theorem decT_million {r : Nat} (h : r < 1000000) : decT (1000000 + r) = [49, UInt8.ofNat (48 + r / 100000), UInt8.ofNat (48 + r / 10000 % 10), UInt8.ofNat (48 + r / 1000 % 10), UInt8.ofNat (48 + r / 100 % 10), UInt8.ofNat (48 + r / 10 % 10), UInt8.ofNat (48 + r % 10)] := by
  rw [decT_ge (by omega), decT_ge (by omega), decT_ge (by omega), decT_ge (by omega), decT_ge (by omega), decT_ge (by omega), decT_lt (by omega)]
  simp only [Nat.div_div_eq_div_mul, List.cons_append, List.nil_append, List.cons.injEq, and_true]
  refine ⟨?_, ?_, ?_, ?_, ?_, ?_, ?_⟩
  · rw [show 48 + (1000000 + r) / (10 * 10 * 10 * 10 * 10 * 10) = 49 by omega]; rfl
  all_goals (congr 1; omega)
theorem dig48 {d : Nat} (hd : d < 10) (h : UInt8.ofNat (48 + d) = 48) : d = 0 := by
  have := congrArg UInt8.toNat h
  simp at this
  omega
theorem mem_trimZ_nil {l : List UInt8} (h : trimZ l = []) : ∀ c ∈ l, c = 48 := by
  unfold trimZ Lib.trimRightB at h
  have h' : l.reverse.dropWhile (· == 48) = [] := by simpa using h
  intro c hc
  have hall : ∀ (m : List UInt8), m.dropWhile (· == 48) = [] → ∀ c ∈ m, c = 48 := by
    intro m
    induction m with
    | nil => intro _ c hc; simp at hc
    | cons x m ih =>
      intro hm c hc
      by_cases hx : (x == 48) = true
      · rw [List.dropWhile_cons_of_pos (p := (· == 48)) hx] at hm
        rcases List.mem_cons.1 hc with rfl | hc
        · simpa using hx
        · exact ih hm c hc
      · rw [List.dropWhile_cons_of_neg (p := (· == 48)) hx] at hm
        simp at hm
  exact hall _ h' c (by simpa using hc)
theorem fracT_ne {r : Nat} (h : r < 1000000) (h0 : 0 < r) : trimZ ((decT (1000000 + r)).drop 1) ≠ [] := by
  intro e
  have ha := mem_trimZ_nil e
  rw [decT_million h] at ha
  simp only [List.drop_succ_cons, List.drop_zero, List.mem_cons, List.not_mem_nil, or_false, forall_eq_or_imp, forall_eq] at ha
  obtain ⟨h1, h2, h3, h4, h5, h6⟩ := ha
  have := dig48 (by omega) h1
  have := dig48 (by omega) h2
  have := dig48 (by omega) h3
  have := dig48 (by omega) h4
  have := dig48 (by omega) h5
  have := dig48 (by omega) h6
  omega
theorem trimZ_len (l : List UInt8) : (trimZ l).length ≤ l.length := by
  unfold trimZ Lib.trimRightB
  rw [List.length_reverse]
  exact Nat.le_trans (List.dropWhile_suffix _).length_le (by simp)
theorem fracT_len {r : Nat} (h : r < 1000000) : (fracT r).length ≤ 7 := by
  unfold fracT
  split
  · simp
  · have := trimZ_len ((decT (1000000 + r)).drop 1)
    rw [decT_million h] at this ⊢
    simp at this ⊢
    omega
theorem wholeT_len {k : Nat} (h : k < 1000000000000) : (wholeT k).length ≤ 12 := by
  unfold wholeT
  split
  · simp
  · exact Nat.le_trans (decT_small 12 k (by simpa using h)) (by decide)
theorem posT_len {k : Nat} (h : k ≤ maxNum) : (posT k).length ≤ 19 := by
  unfold posT
  have h1 := wholeT_len (k := k / 1000000) (by simp only [maxNum] at h; omega)
  have h2 := fracT_len (r := k % 1000000) (by omega)
  simp; omega
theorem posT_ne {k : Nat} (h : 0 < k) : posT k ≠ [] := by
  unfold posT wholeT fracT
  intro e
  rw [List.append_eq_nil_iff] at e
  obtain ⟨e1, e2⟩ := e
  split at e1
  · split at e2
    · omega
    · simp at e2
  · have := decT_pos (k / 1000000)
    rw [e1] at this
    simp at this
theorem textL_len {n : Int} (h : n.natAbs ≤ maxNum) : 1 ≤ (textL n).length ∧ (textL n).length ≤ 20 := by
  unfold textL
  have := posT_len h
  split
  · simp
  · have h2 := posT_ne (k := n.natAbs) (by omega)
    have h3 : 0 < (posT n.natAbs).length := List.length_pos_iff.2 h2
    by_cases hn : n < 0
    · rw [if_pos hn, List.length_cons]; omega
    · rw [if_neg hn]; omega
theorem numText_size {n : Int} (h : n.natAbs ≤ maxNum) : 1 ≤ (numText n).size ∧ (numText n).size ≤ 20 := by
  have := textL_len h
  have e : (numText n).size = (textL n).length := by show (textL n).toArray.size = _; simp
  omega
theorem numOf_abs (s : ByteArray) : (numOf s).natAbs ≤ maxNum := by have := numOf_le s; simp only [maxNum]; omega
def canon (s : ByteArray) : Bool := decide (numText (numOf s) = s)
theorem canon_size {s : ByteArray} (h : canon s = true) : 1 ≤ s.size ∧ s.size ≤ 20 := by
  have e : numText (numOf s) = s := by simpa [canon] using h
  have := numText_size (numOf_abs s)
  rw [e] at this
  exact this

/-! ### Orders -/
structure LO {α : Type} (lt : α → α → Bool) : Prop where
  irr : ∀ a, lt a a = false
  tr : ∀ a b c, lt a b = true → lt b c = true → lt a c = true
  tri : ∀ a b, lt a b = false → lt b a = false → a = b
section
variable {α : Type} {lt : α → α → Bool}
theorem LO.asym (h : LO lt) {a b : α} (h1 : lt a b = true) : lt b a = false := by
  cases e : lt b a
  · rfl
  · have := h.tr _ _ _ h1 e
    rw [h.irr] at this
    cases this
def cmpBy (lt : α → α → Bool) (a b : α) : Int := if lt a b = true then -1 else if lt b a = true then 1 else 0
theorem cmpBy_lt {a b : α} (h : lt a b = true) : cmpBy lt a b = -1 := if_pos h
theorem cmpBy_gt (hl : LO lt) {a b : α} (h : lt b a = true) : cmpBy lt a b = 1 := by unfold cmpBy; rw [if_neg (by rw [hl.asym h]; simp), if_pos h]
theorem cmpBy_self (hl : LO lt) (a : α) : cmpBy lt a a = 0 := by unfold cmpBy; rw [if_neg (by rw [hl.irr]; simp), if_neg (by rw [hl.irr]; simp)]
theorem LO.three (hl : LO lt) (a b : α) : (lt a b = true ∧ lt b a = false ∧ a ≠ b ∧ cmpBy lt a b = -1) ∨ (a = b ∧ lt a b = false ∧ lt b a = false ∧ cmpBy lt a b = 0) ∨ (lt a b = false ∧ lt b a = true ∧ a ≠ b ∧ cmpBy lt a b = 1) := by
  cases e1 : lt a b
  · cases e2 : lt b a
    · obtain rfl := hl.tri _ _ e1 e2
      exact .inr (.inl ⟨rfl, rfl, rfl, cmpBy_self hl a⟩)
    · exact .inr (.inr ⟨rfl, rfl, (fun e => by subst e; rw [hl.irr] at e2; cases e2), cmpBy_gt hl e2⟩)
  · exact .inl ⟨rfl, hl.asym e1, (fun e => by subst e; rw [hl.irr] at e1; cases e1), cmpBy_lt e1⟩
theorem cmpBy_nonneg (hl : LO lt) (a b : α) : 0 ≤ cmpBy lt a b ↔ lt a b = false := by
  rcases hl.three a b with h | h | h
  · rw [h.2.2.2, h.1]; simp
  · rw [h.2.2.2, h.2.1]; simp
  · rw [h.2.2.2, h.1]; simp
theorem cmpBy_zero (hl : LO lt) (a b : α) : cmpBy lt a b = 0 ↔ a = b := by
  rcases hl.three a b with h | h | h
  · rw [h.2.2.2]; simp [h.2.2.1]
  · rw [h.2.2.2]; simp [h.1]
  · rw [h.2.2.2]; simp [h.2.2.1]
theorem cmpBy_bd (a b : α) : -1 ≤ cmpBy lt a b ∧ cmpBy lt a b ≤ 1 := by unfold cmpBy; split <;> (try split) <;> omega
end
def intLt (a b : Int) : Bool := decide (a < b)
theorem lo_int : LO intLt := ⟨fun a => by simp [intLt], fun a b c => by simp [intLt]; omega, fun a b => by simp [intLt]; omega⟩
theorem ba_ext {a b : ByteArray} (h : a.data.toList = b.data.toList) : a = b := by
  apply ByteArray.ext
  rw [← Array.toArray_toList (xs := a.data), h]
def lexLt {α : Type} (lt : α → α → Bool) : List α → List α → Bool
  | [], [] => false
  | [], _ :: _ => true
  | _ :: _, [] => false
  | x :: xs, y :: ys => if lt x y = true then true else if lt y x = true then false else lexLt lt xs ys
theorem lo_lex {α : Type} {lt : α → α → Bool} (hl : LO lt) : LO (lexLt lt) := by
  refine ⟨fun a => ?_, fun a => ?_, fun a => ?_⟩
  · induction a with
    | nil => rfl
    | cons x xs ih => simp [lexLt, hl.irr, ih]
  · induction a with
    | nil =>
      intro b c h1 h2
      cases b with
      | nil => simp [lexLt] at h1
      | cons y ys => cases c with
        | nil => simp [lexLt] at h2
        | cons z zs => rfl
    | cons x xs ih =>
      intro b c h1 h2
      cases b with
      | nil => simp [lexLt] at h1
      | cons y ys => cases c with
        | nil => simp [lexLt] at h2
        | cons z zs =>
          unfold lexLt at h1 h2 ⊢
          rcases hl.three x y with ⟨e1, e2, _, _⟩ | ⟨rfl, e1, _, _⟩ | ⟨e1, e2, _, _⟩
          · rcases hl.three y z with ⟨f1, f2, _, _⟩ | ⟨rfl, f1, _, _⟩ | ⟨f1, f2, _, _⟩
            · rw [if_pos (hl.tr _ _ _ e1 f1)]
            · rw [if_pos e1]
            · rw [f1, f2] at h2; simp at h2
          · rw [if_neg (by rw [e1]; simp), if_neg (by rw [e1]; simp)] at h1
            rcases hl.three x z with ⟨f1, f2, _, _⟩ | ⟨rfl, f1, _, _⟩ | ⟨f1, f2, _, _⟩
            · rw [if_pos f1]
            · rw [if_neg (by rw [f1]; simp), if_neg (by rw [f1]; simp)] at h2 ⊢
              exact ih _ _ h1 h2
            · rw [f1, f2] at h2; simp at h2
          · rw [e1, e2] at h1; simp at h1
  · induction a with
    | nil =>
      intro b h1 h2
      cases b with
      | nil => rfl
      | cons y ys => simp [lexLt] at h1
    | cons x xs ih =>
      intro b h1 h2
      cases b with
      | nil => simp [lexLt] at h2
      | cons y ys =>
        unfold lexLt at h1 h2
        rcases hl.three x y with ⟨e1, e2, _, _⟩ | ⟨rfl, e1, _, _⟩ | ⟨e1, e2, _, _⟩
        · rw [e1] at h1; simp at h1
        · rw [e1] at h1 h2; simp at h1 h2
          rw [ih _ h1 h2]
        · rw [e2] at h2; simp at h2
def u8Lt (a b : UInt8) : Bool := decide (a < b)
theorem lo_u8 : LO u8Lt := ⟨fun a => by simp [u8Lt], fun a b c => by simp only [u8Lt, decide_eq_true_eq, UInt8.lt_iff_toNat_lt]; omega, fun a b => by
  simp only [u8Lt, decide_eq_false_iff_not, UInt8.lt_iff_toNat_lt]
  intro h1 h2
  exact UInt8.toNat_inj.1 (by omega)⟩
theorem bytesLess_lex : ∀ (a b : List UInt8), Op.bytesLess a b = lexLt u8Lt a b
  | [], [] => rfl
  | [], _ :: _ => rfl
  | _ :: _, [] => rfl
  | x :: xs, y :: ys => by
    have ih := bytesLess_lex xs ys
    unfold Op.bytesLess lexLt
    rw [ih]
    rcases lo_u8.three x y with e | e | e
    · have h1 : decide (x < y) = true := e.1
      rw [h1, if_pos e.1]; rfl
    · obtain ⟨rfl, e1, _⟩ := e
      have h1 : decide (x < x) = false := e1
      rw [h1, if_neg (by rw [e1]; simp), if_neg (by rw [e1]; simp)]; simp
    · have h1 : decide (x < y) = false := e.1
      have h2 : (x == y) = false := by simpa using e.2.2.1
      rw [h1, h2, if_neg (by rw [e.1]; simp), if_pos e.2.1]; rfl
def bytesLt (a b : ByteArray) : Bool := Op.bytesLess a.toList b.toList
theorem lo_bytes : LO bytesLt := by
  have hl := lo_lex lo_u8
  refine ⟨fun a => ?_, fun a b c h1 h2 => ?_, fun a b h1 h2 => ?_⟩
  · unfold bytesLt; rw [bytesLess_lex]; exact hl.irr _
  · unfold bytesLt at h1 h2 ⊢
    rw [bytesLess_lex] at h1 h2 ⊢
    exact hl.tr _ _ _ h1 h2
  · unfold bytesLt at h1 h2
    rw [bytesLess_lex] at h1 h2
    have := hl.tri _ _ h1 h2
    rw [ByteArray.toList_eq, ByteArray.toList_eq] at this
    exact ba_ext this
/-- Numbers by value, ahead of all other texts. -/
def subLt (a b : ByteArray) : Bool := if canon a = true ∧ canon b = true then intLt (numOf a) (numOf b) else if canon a = true then true else if canon b = true then false else bytesLt a b
theorem canon_inj {a b : ByteArray} (ha : canon a = true) (hb : canon b = true) (h : numOf a = numOf b) : a = b := by
  have e1 : numText (numOf a) = a := by simpa [canon] using ha
  have e2 : numText (numOf b) = b := by simpa [canon] using hb
  rw [← e1, h, e2]
theorem lo_sub : LO subLt := by
  refine ⟨fun a => ?_, fun a b c => ?_, fun a b => ?_⟩
  · unfold subLt
    cases ha : canon a <;> simp [lo_int.irr, lo_bytes.irr]
  · unfold subLt
    cases ha : canon a <;> cases hb : canon b <;> cases hc : canon c <;> simp
    · exact lo_bytes.tr a b c
    · exact lo_int.tr _ _ _
  · unfold subLt
    cases ha : canon a <;> cases hb : canon b <;> simp
    · exact lo_bytes.tri a b
    · intro h1 h2; exact canon_inj ha hb (lo_int.tri _ _ h1 h2)
section
variable {α : Type} {lt : α → α → Bool}
theorem lex_drop (hl : LO lt) (k : Nat) : ∀ (xs ys : List α), xs.take k = ys.take k → lexLt lt xs ys = lexLt lt (xs.drop k) (ys.drop k) := by
  intro xs ys h
  have e : ∀ (p x y : List α), lexLt lt (p ++ x) (p ++ y) = lexLt lt x y := fun p x y => by
    induction p with
    | nil => rfl
    | cons a p ih => simp [lexLt, hl.irr, ih]
  have := e (xs.take k) (xs.drop k) (ys.drop k)
  rw [List.take_append_drop] at this
  rw [← this]
  congr 1
  rw [h, List.take_append_drop]
theorem lex_at (hl : LO lt) {k : Nat} {xs ys : List α} (h : xs.take k = ys.take k) (h1 : k < xs.length) (h2 : k < ys.length) (ne : xs[k] ≠ ys[k]) : lexLt lt xs ys = lt xs[k] ys[k] := by
  rw [lex_drop hl k xs ys h, List.drop_eq_getElem_cons h1, List.drop_eq_getElem_cons h2]
  unfold lexLt
  rcases hl.three xs[k] ys[k] with e | e | e
  · rw [if_pos e.1, e.1]
  · exact absurd e.1 ne
  · rw [if_neg (by rw [e.1]; simp), if_pos e.2.1, e.1]
theorem lex_end (hl : LO lt) {k : Nat} {xs ys : List α} (h : xs.take k = ys.take k) (h1 : k ≤ xs.length) (h2 : k ≤ ys.length) (hk : ¬ (k < xs.length ∧ k < ys.length)) : lexLt lt xs ys = decide (xs.length < ys.length) := by
  rw [lex_drop hl k xs ys h]
  rcases Nat.lt_or_ge k xs.length with a | a
  · have b : ys.length = k := by omega
    rw [List.drop_of_length_le (by omega : ys.length ≤ k), List.drop_eq_getElem_cons a, decide_eq_false (by omega)]
    rfl
  · rcases Nat.lt_or_ge k ys.length with b | b
    · rw [List.drop_of_length_le a, List.drop_eq_getElem_cons b, decide_eq_true (by omega)]
      rfl
    · rw [List.drop_of_length_le a, List.drop_of_length_le b, decide_eq_false (by omega)]
      rfl
theorem cmp_lex_at (hl : LO lt) {k : Nat} {xs ys : List α} (h : xs.take k = ys.take k) (h1 : k < xs.length) (h2 : k < ys.length) (ne : xs[k] ≠ ys[k]) : cmpBy (lexLt lt) xs ys = cmpBy lt xs[k] ys[k] := by
  unfold cmpBy
  rw [lex_at hl h h1 h2 ne, lex_at hl h.symm h2 h1 (Ne.symm ne)]
theorem cmp_lex_end (hl : LO lt) {k : Nat} {xs ys : List α} (h : xs.take k = ys.take k) (h1 : k ≤ xs.length) (h2 : k ≤ ys.length) (hk : ¬ (k < xs.length ∧ k < ys.length)) : cmpBy (lexLt lt) xs ys = if xs.length < ys.length then -1 else if ys.length < xs.length then 1 else 0 := by
  unfold cmpBy
  rw [lex_end hl h h1 h2 hk, lex_end hl h.symm h2 h1 (fun e => hk ⟨e.2, e.1⟩)]
  simp
end
def subsLt : List ByteArray → List ByteArray → Bool := lexLt subLt
theorem lo_subs : LO subsLt := lo_lex lo_sub
/-- Two orders, one behind the other. -/
def thenLt {α β : Type} (la : α → α → Bool) (lb : β → β → Bool) (x y : α × β) : Bool := if la x.1 y.1 = true then true else if la y.1 x.1 = true then false else lb x.2 y.2
theorem lo_then {α β : Type} {la : α → α → Bool} {lb : β → β → Bool} (ha : LO la) (hb : LO lb) : LO (thenLt la lb) := by
  refine ⟨fun a => ?_, fun a b c h1 h2 => ?_, fun a b h1 h2 => ?_⟩
  · simp [thenLt, ha.irr, hb.irr]
  · obtain ⟨a1, a2⟩ := a; obtain ⟨b1, b2⟩ := b; obtain ⟨c1, c2⟩ := c
    unfold thenLt at h1 h2 ⊢
    simp only at h1 h2 ⊢
    rcases ha.three a1 b1 with ⟨e1, e2, _, _⟩ | ⟨rfl, e1, _, _⟩ | ⟨e1, e2, _, _⟩
    · rcases ha.three b1 c1 with ⟨f1, f2, _, _⟩ | ⟨rfl, f1, _, _⟩ | ⟨f1, f2, _, _⟩
      · rw [if_pos (ha.tr _ _ _ e1 f1)]
      · rw [if_pos e1]
      · rw [f1, f2] at h2; simp at h2
    · rw [if_neg (by rw [e1]; simp), if_neg (by rw [e1]; simp)] at h1
      rcases ha.three a1 c1 with ⟨f1, f2, _, _⟩ | ⟨rfl, f1, _, _⟩ | ⟨f1, f2, _, _⟩
      · rw [if_pos f1]
      · rw [if_neg (by rw [f1]; simp), if_neg (by rw [f1]; simp)] at h2 ⊢
        exact hb.tr _ _ _ h1 h2
      · rw [f1, f2] at h2; simp at h2
    · rw [e1, e2] at h1; simp at h1
  · obtain ⟨a1, a2⟩ := a; obtain ⟨b1, b2⟩ := b
    unfold thenLt at h1 h2
    simp only at h1 h2
    rcases ha.three a1 b1 with ⟨e1, e2, _, _⟩ | ⟨rfl, e1, _, _⟩ | ⟨e1, e2, _, _⟩
    · rw [e1] at h1; simp at h1
    · rw [e1] at h1 h2; simp at h1 h2
      rw [hb.tri _ _ h1 h2]
    · rw [e2] at h2; simp at h2
def locLt (x y : ByteArray × List ByteArray) : Bool := thenLt bytesLt subsLt x y
theorem lo_loc : LO locLt := lo_then lo_bytes lo_subs
theorem lex_same {α : Type} {lt : α → α → Bool} (hl : LO lt) (p x y : List α) : lexLt lt (p ++ x) (p ++ y) = lexLt lt x y := by
  induction p with
  | nil => rfl
  | cons a p ih => simp [lexLt, hl.irr, ih]

/-! ### Places, nodes, trees, images -/
def isLetter (c : UInt8) : Bool := (decide (97 ≤ c.toNat) && decide (c.toNat ≤ 122)) || (decide (65 ≤ c.toNat) && decide (c.toNat ≤ 90))
def chOk (i : Nat) (c : UInt8) : Bool := isLetter c || (if i = 0 then c == 37 else isDig c)
def NameP (s : ByteArray) : Prop := 1 ≤ s.size ∧ s.size ≤ 8 ∧ ∀ i (h : i < s.size), chOk i s[i] = true
instance (s : ByteArray) : Decidable (NameP s) := by unfold NameP; infer_instance
def nameB (s : ByteArray) : Bool := decide (NameP s)
theorem nameB_t {s : ByteArray} (h : NameP s) : nameB s = true := decide_eq_true h
theorem nameB_f {s : ByteArray} (h : ¬ NameP s) : nameB s = false := decide_eq_false h
def subB (s : ByteArray) : Bool := decide (1 ≤ s.size) && decide (s.size ≤ 24)
def SubsP (l : List ByteArray) : Prop := l.length ≤ 4 ∧ ∀ i (h : i < l.length), subB l[i] = true
instance (l : List ByteArray) : Decidable (SubsP l) := by unfold SubsP; infer_instance
def subsB (l : List ByteArray) : Bool := decide (SubsP l)
theorem subsB_t {l : List ByteArray} (h : SubsP l) : subsB l = true := decide_eq_true h
theorem subsB_f {l : List ByteArray} (h : ¬ SubsP l) : subsB l = false := decide_eq_false h
def placeB (name : ByteArray) (subs : List ByteArray) : Bool := nameB name && subsB subs
/-! ### A run of bytes of one class in a string -/
section
variable (p : UInt8 → Bool) (s : ByteArray) (a : Nat)
def runL : List UInt8 := (s.data.toList.drop a).takeWhile p
theorem slen (s : ByteArray) : s.data.toList.length = s.size := Array.length_toList
theorem inRunL {j : Nat} (h : j < (runL p s a).length) : ∃ h' : a + j < s.size, p s[a + j] = true ∧ (runL p s a)[j] = s[a + j] := by
  obtain ⟨h1, h2⟩ := tw_all p _ j h
  have hs := slen s
  have h3 : a + j < s.size := by rw [List.length_drop] at h1; omega
  refine ⟨h3, ?_, ?_⟩
  · rw [List.getElem_drop] at h2; exact h2
  · have := tw_at p _ j h h1
    rw [List.getElem_drop] at this
    exact this
theorem run_end (h : a + (runL p s a).length < s.size) : p s[a + (runL p s a).length] = false := by
  have hs := slen s
  have := tw_stop p (s.data.toList.drop a) (by rw [List.length_drop]; show (runL p s a).length < _; omega)
  rw [List.getElem_drop] at this
  exact this
theorem run_le (h : a ≤ s.size) : a + (runL p s a).length ≤ s.size := by
  have := tw_le p (s.data.toList.drop a)
  rw [List.length_drop] at this
  have hs := slen s
  show a + ((s.data.toList.drop a).takeWhile p).length ≤ _
  omega
theorem run_rest : s.data.toList.drop (a + (runL p s a).length) = (s.data.toList.drop a).dropWhile p := by
  rw [← dw_drop, List.drop_drop]
  rfl
end
def signR (s : ByteArray) : List UInt8 := runL isSign s 0
def wholeR (s : ByteArray) : List UInt8 := runL isDig s (signR s).length
def atP (s : ByteArray) : Nat := (signR s).length + (wholeR s).length
theorem signR_eq (s : ByteArray) : signR s = s.data.toList.takeWhile isSign := by unfold signR runL; rw [List.drop_zero]
theorem restL_eq (s : ByteArray) : restL s.data.toList = s.data.toList.drop (signR s).length := by unfold restL; rw [signR_eq, dw_drop]
theorem wholeR_eq (s : ByteArray) : wholeR s = wholeL s.data.toList := by unfold wholeL; rw [restL_eq]; rfl
theorem afterL_eq (s : ByteArray) : afterL s.data.toList = s.data.toList.drop (atP s) := by
  unfold afterL atP
  rw [restL_eq]
  exact (run_rest isDig s _).symm
theorem signR_le (s : ByteArray) : (signR s).length ≤ s.size := by have := run_le isSign s 0 (Nat.zero_le _); unfold signR; omega
theorem atP_le (s : ByteArray) : atP s ≤ s.size := run_le isDig s _ (signR_le s)
theorem fracL_yes {s : ByteArray} (h : atP s < s.size) (h2 : s[atP s] = 46) : fracL s.data.toList = runL isDig s (atP s + 1) := by
  unfold fracL
  rw [afterL_eq, List.drop_eq_getElem_cons (by rw [slen]; exact h)]
  show (if s[atP s] = 46 then _ else _) = _
  rw [if_pos h2]
  rfl
theorem fracL_no {s : ByteArray} (h : atP s < s.size) (h2 : s[atP s] ≠ 46) : fracL s.data.toList = [] := by
  unfold fracL
  rw [afterL_eq, List.drop_eq_getElem_cons (by rw [slen]; exact h)]
  show (if s[atP s] = 46 then _ else _) = _
  rw [if_neg h2]
theorem fracL_end {s : ByteArray} (h : ¬ atP s < s.size) : fracL s.data.toList = [] := by
  unfold fracL
  rw [afterL_eq, List.drop_of_length_le (by rw [slen]; omega)]
  rfl
theorem negB_snoc (l : List UInt8) (c : UInt8) : negB (l ++ [c]) = (if c = 45 then !negB l else negB l) := by
  unfold negB
  rw [List.count_append, List.count_singleton]
  by_cases h : c = 45
  · rw [if_pos h]; simp only [h, beq_self_eq_true, if_true]
    by_cases h2 : List.count 45 l % 2 = 1
    · rw [decide_eq_true h2, decide_eq_false (by omega)]; rfl
    · rw [decide_eq_false h2, decide_eq_true (by omega)]; rfl
  · rw [if_neg h]; simp [h]
theorem negL_eq (s : ByteArray) : negL s.data.toList = negB (signR s) := by unfold negL; rw [signR_eq]
theorem u8_ne {c d : UInt8} (h : c ≠ d) : ¬ (c.toNat : Int) = (d.toNat : Int) := fun e => h (UInt8.toNat_inj.1 (by omega))
theorem u8_eq {c d : UInt8} (h : c = d) : (c.toNat : Int) = (d.toNat : Int) := by rw [h]
theorem isSign_cases {c : UInt8} (h : isSign c = true) : c = 43 ∨ c = 45 := by simpa [isSign] using h
theorem isSign_not {c : UInt8} (h : isSign c = false) : c ≠ 43 ∧ c ≠ 45 := by simpa [isSign] using h
end Go.Proofs.YtghphlfihakadaaGreatDoor
