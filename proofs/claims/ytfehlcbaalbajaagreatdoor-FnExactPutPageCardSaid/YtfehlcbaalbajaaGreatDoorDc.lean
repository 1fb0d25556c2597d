/-
  Keys taken apart, in plain words: the two decoders give back what the encoder was given, and nothing else.
-/
import Derived.Test.YtfehlcbaalbajaaGreatDoorKz
namespace Go.Proofs.YtfehlcbaalbajaaGreatDoor
open Go.RowKit
set_option linter.unusedVariables false
set_option linter.unusedSimpArgs false

def beV (l : List UInt8) : Nat := l.foldl (fun n c => n * 256 + c.toNat) 0
theorem beV_snoc (l : List UInt8) (c : UInt8) : beV (l ++ [c]) = beV l * 256 + c.toNat := by simp [beV]
theorem beV_go : ∀ (l : List UInt8) (a : Nat), l.foldl (fun n c => n * 256 + c.toNat) a < (a + 1) * 256 ^ l.length
  | [], a => by simp
  | c :: l, a => by
    have h := beV_go l (a * 256 + c.toNat)
    have hc := c.toNat_lt
    have h1 : (a * 256 + c.toNat + 1) * 256 ^ l.length ≤ ((a + 1) * 256) * 256 ^ l.length := Nat.mul_le_mul_right _ (by omega)
    rw [List.foldl_cons, List.length_cons, Nat.pow_succ, Nat.mul_comm (256 ^ l.length) 256, ← Nat.mul_assoc]
    omega
theorem beV_lt (l : List UInt8) : beV l < 256 ^ l.length := by
  have := beV_go l 0
  simpa [beV] using this
theorem beV_beT (n : Nat) (hn : n < 256 ^ 8) : ∀ m, m ≤ 8 → beV (beT n m) = n / 256 ^ (8 - m)
  | 0, _ => by
    show 0 = _
    rw [Nat.div_eq_of_lt (by simpa using hn)]
  | m + 1, hm => by
    have ih := beV_beT n hn m (by omega)
    show beV (beT n m ++ [UInt8.ofNat (n / 256 ^ (7 - m))]) = _
    rw [beV_snoc, ih]
    have e1 : 8 - m = (7 - m) + 1 := by omega
    have e2 : 8 - (m + 1) = 7 - m := by omega
    rw [e1, e2, Nat.pow_succ, ← Nat.div_div_eq_div_mul]
    have : (UInt8.ofNat (n / 256 ^ (7 - m))).toNat = n / 256 ^ (7 - m) % 256 := by simp [UInt8.toNat_ofNat']
    rw [this]
    omega
def numTx (n : Int) : ByteArray := if n.natAbs ≤ 999999999999999999 then numText n else ⟨#[]⟩
theorem numTx_size (n : Int) : (numTx n).size ≤ 20 := by
  unfold numTx
  split
  · rename_i h
    exact (numText_size h).2
  · exact Nat.zero_le _
def takeNum (lo hi : Nat) (l : List UInt8) : Option (ByteArray × List UInt8) :=
  if 8 ≤ l.length ∧ lo ≤ beV (l.take 8) ∧ beV (l.take 8) ≤ hi then some (numTx ((beV (l.take 8) : Int) - 1000000000000000000), l.drop 8) else none
/-- A string up to its end mark, and what is behind it. -/
def decS : List UInt8 → Option (List UInt8 × List UInt8)
  | [] => none
  | [_] => none
  | c :: d :: l => if c = 0 then (if d = 0 then some ([], l) else if d = 255 then (decS l).map fun p => (0 :: p.1, p.2) else none) else (decS (d :: l)).map fun p => (c :: p.1, p.2)
theorem decS_esc : ∀ (t tl : List UInt8), decS (escL t ++ (0 :: 0 :: tl)) = some (t, tl)
  | [], tl => by simp [escL, decS]
  | c :: t, tl => by
    have ih := decS_esc t tl
    show decS ((escB c ++ escL t) ++ (0 :: 0 :: tl)) = _
    unfold escB
    by_cases hc : c = 0
    · rw [if_pos hc]
      show decS (0 :: 255 :: (escL t ++ (0 :: 0 :: tl))) = _
      rw [decS, if_pos rfl, if_neg (by decide), if_pos rfl, ih, hc]
      rfl
    · rw [if_neg hc]
      have : ∃ d r, escL t ++ (0 :: 0 :: tl) = d :: r := by
        cases h : escL t ++ (0 :: 0 :: tl) with
        | nil => simp at h
        | cons d r => exact ⟨d, r, rfl⟩
      obtain ⟨d, r, e⟩ := this
      show decS (c :: (escL t ++ (0 :: 0 :: tl))) = _
      rw [e, decS, if_neg hc, ← e, ih]
      rfl
theorem decS_len : ∀ (l t r : List UInt8), decS l = some (t, r) → t.length + r.length < l.length
  | [], _, _, h => by simp [decS] at h
  | [_], _, _, h => by simp [decS] at h
  | c :: d :: l, t, r, h => by
    rw [decS] at h
    split at h
    · split at h
      · injection h with h
        injection h with h1 h2
        subst h1 h2
        simp only [List.length_cons, List.length_nil]
        omega
      · split at h
        · rw [Option.map_eq_some_iff] at h
          obtain ⟨⟨t', r'⟩, h1, h2⟩ := h
          injection h2 with h2 h3
          subst h2 h3
          have := decS_len l t' r' h1
          simp only [List.length_cons]
          omega
        · simp at h
    · rw [Option.map_eq_some_iff] at h
      obtain ⟨⟨t', r'⟩, h1, h2⟩ := h
      injection h2 with h2 h3
      subst h2 h3
      have := decS_len (d :: l) t' r' h1
      simp only [List.length_cons] at this ⊢
      omega
section
variable (s : ByteArray) {k : Nat}
theorem drop_two (h : k + 1 < s.size) : s.data.toList.drop k = s[k] :: s[k + 1] :: s.data.toList.drop (k + 2) := by
  have hl := slen s
  rw [List.drop_eq_getElem_cons (by omega), List.drop_eq_getElem_cons (i := k + 1) (by omega)]
  rfl
theorem drop_one (h : k < s.size) : s.data.toList.drop k = s[k] :: s.data.toList.drop (k + 1) := by
  have hl := slen s
  rw [List.drop_eq_getElem_cons (by omega)]
  rfl
theorem decS_end (h : ¬ k + 1 < s.size) : decS (s.data.toList.drop k) = none := by
  have hl := slen s
  have : (s.data.toList.drop k).length ≤ 1 := by rw [List.length_drop]; omega
  match e : s.data.toList.drop k with
  | [] => rfl
  | [_] => rfl
  | _ :: _ :: _ => rw [e] at this; simp at this
theorem decS_ne (h : k + 1 < s.size) (hc : s[k] ≠ 0) : decS (s.data.toList.drop k) = (decS (s.data.toList.drop (k + 1))).map fun p => (s[k] :: p.1, p.2) := by
  rw [drop_two s h, drop_one s h, decS, if_neg hc]
theorem decS_00 (h : k + 1 < s.size) (hc : s[k] = 0) (hd : s[k + 1] = 0) : decS (s.data.toList.drop k) = some ([], s.data.toList.drop (k + 2)) := by
  rw [drop_two s h, decS, if_pos hc, if_pos hd]
theorem decS_ff (h : k + 1 < s.size) (hc : s[k] = 0) (hd : s[k + 1] = 255) : decS (s.data.toList.drop k) = (decS (s.data.toList.drop (k + 2))).map fun p => (0 :: p.1, p.2) := by
  rw [drop_two s h, decS, if_pos hc, if_neg (by rw [hd]; decide), if_pos hd]
theorem decS_bad (h : k + 1 < s.size) (hc : s[k] = 0) (hd : s[k + 1] ≠ 0) (hf : s[k + 1] ≠ 255) : decS (s.data.toList.drop k) = none := by
  rw [drop_two s h, decS, if_pos hc, if_neg hd, if_neg hf]
end
/-- The string read so far, put ahead. -/
def ahead (O : List UInt8) (r : Option (List UInt8 × List UInt8)) : Option (List UInt8 × List UInt8) := r.map fun p => (O ++ p.1, p.2)
theorem ahead_map (O : List UInt8) (c : UInt8) (r : Option (List UInt8 × List UInt8)) : ahead O (r.map fun p => (c :: p.1, p.2)) = ahead (O ++ [c]) r := by cases r <;> simp [ahead]
theorem ahead_nil (r : Option (List UInt8 × List UInt8)) : ahead [] r = r := by cases r <;> simp [ahead]
def takeSub (lo hi : Nat) : List UInt8 → Option (ByteArray × List UInt8)
  | [] => none
  | c :: l => if c = 1 then takeNum lo hi l else if c = 2 then (decS l).map fun p => (bs p.1, p.2) else none
theorem bs_dataD (s : ByteArray) : bs s.data.toList = s := rfl
theorem takeSub_key (lo hi : Nat) (h1 : lo ≤ 1) (h2 : 1999999999999999999 ≤ hi) (s : ByteArray) (tl : List UInt8) : takeSub lo hi (subKeyL s ++ tl) = some (s, tl) := by
  unfold subKeyL
  by_cases hc : canon s = true
  · have hb := numOf_le s
    have hlt : (numOf s + 1000000000000000000).toNat < 256 ^ 8 := by
      have : (256 : Nat) ^ 8 = 18446744073709551616 := rfl
      omega
    have hl : (beT (numOf s + 1000000000000000000).toNat 8).length = 8 := beT_len _ _
    have ht : (beT (numOf s + 1000000000000000000).toNat 8 ++ tl).take 8 = beT (numOf s + 1000000000000000000).toNat 8 := by rw [List.take_append_of_le_length (by omega), List.take_of_length_le (by omega)]
    have hv : beV (beT (numOf s + 1000000000000000000).toNat 8) = (numOf s + 1000000000000000000).toNat := by rw [beV_beT _ hlt 8 (Nat.le_refl _)]; simp
    have hd : (beT (numOf s + 1000000000000000000).toNat 8 ++ tl).drop 8 = tl := by rw [List.drop_append_of_le_length (by omega), List.drop_of_length_le (by omega)]; rfl
    rw [if_pos hc]
    show takeSub lo hi (1 :: (beT (numOf s + 1000000000000000000).toNat 8 ++ tl)) = _
    rw [takeSub, if_pos rfl]
    unfold takeNum
    rw [ht, hv, hd, if_pos ⟨by rw [List.length_append]; omega, by omega, by omega⟩]
    have e : (((numOf s + 1000000000000000000).toNat : Int) - 1000000000000000000) = numOf s := by omega
    have : numText (numOf s) = s := by simpa [canon] using hc
    have hn : numTx (numOf s) = s := by rw [numTx, if_pos (by omega), this]
    rw [e, hn]
  · rw [if_neg hc]
    show takeSub lo hi (2 :: (escL s.data.toList ++ [0, 0] ++ tl)) = _
    rw [takeSub, if_neg (by decide), if_pos rfl, List.append_assoc]
    show Option.map _ (decS (escL s.data.toList ++ (0 :: 0 :: tl))) = _
    rw [decS_esc]
    rfl
/-- So many subscripts at most, taken one behind the other. -/
def decK (lo hi : Nat) : Nat → List ByteArray → List UInt8 → Option (List ByteArray × List UInt8)
  | 0, out, l => some (out, l)
  | n + 1, out, [] => some (out, [])
  | n + 1, out, c :: l => match takeSub lo hi (c :: l) with
    | none => none
    | some (t, r) => decK lo hi n (out ++ [t]) r
theorem subKeyL_cons (s : ByteArray) : ∃ c r, subKeyL s = c :: r := by unfold subKeyL; split <;> exact ⟨_, _, rfl⟩
theorem decK_keys (lo hi : Nat) (h1 : lo ≤ 1) (h2 : 1999999999999999999 ≤ hi) : ∀ (l : List ByteArray) (n : Nat) (out : List ByteArray), l.length < n → decK lo hi n out (l.flatMap subKeyL) = some (out ++ l, [])
  | [], n, out, h => by
    obtain ⟨m, rfl⟩ : ∃ m, n = m + 1 := ⟨n - 1, by simp at h; omega⟩
    simp [decK]
  | s :: l, n, out, h => by
    obtain ⟨m, rfl⟩ : ∃ m, n = m + 1 := ⟨n - 1, by simp at h; omega⟩
    obtain ⟨c, r, e⟩ := subKeyL_cons s
    have ht := takeSub_key lo hi h1 h2 s (l.flatMap subKeyL)
    show decK lo hi (m + 1) out (subKeyL s ++ l.flatMap subKeyL) = _
    rw [e] at ht ⊢
    show decK lo hi (m + 1) out (c :: (r ++ l.flatMap subKeyL)) = _
    rw [decK]
    have ht' : takeSub lo hi (c :: (r ++ l.flatMap subKeyL)) = some (s, l.flatMap subKeyL) := ht
    rw [ht']
    show decK lo hi m (out ++ [s]) (l.flatMap subKeyL) = _
    rw [decK_keys lo hi h1 h2 l m (out ++ [s]) (by simp at h; omega)]
    simp
def subsOut (s : List UInt8) (left : Bool) : Option (List ByteArray × List UInt8) → Option (List ByteArray)
  | none => none
  | some (out, r) => if (left = true → r = []) ∧ subsB out = true ∧ out.flatMap subKeyL = s then some out else none
/-- The subscripts whose encoding a string is. -/
def getSubs (lo hi : Nat) (left : Bool) (s : List UInt8) : Option (List ByteArray) := subsOut s left (decK lo hi 5 [] s)
theorem getSubs_of (lo hi : Nat) (left : Bool) (h1 : lo ≤ 1) (h2 : 1999999999999999999 ≤ hi) (l : List ByteArray) (h : subsB l = true) : getSubs lo hi left (l.flatMap subKeyL) = some l := by
  have hl := (subsP_of h).1
  unfold getSubs
  rw [decK_keys lo hi h1 h2 l 5 [] (by omega)]
  show (if _ then _ else _) = _
  rw [if_pos ⟨fun _ => rfl, by simpa using h, by simp⟩]
  simp
theorem getSubs_some {lo hi : Nat} {left : Bool} {s : List UInt8} {l : List ByteArray} (h : getSubs lo hi left s = some l) : subsB l = true ∧ l.flatMap subKeyL = s := by
  unfold getSubs at h
  cases hd : decK lo hi 5 [] s with
  | none => rw [hd] at h; simp [subsOut] at h
  | some p =>
    obtain ⟨out, r⟩ := p
    rw [hd] at h
    simp only [subsOut] at h
    split at h
    · rename_i hc
      injection h with h
      subst h
      exact ⟨hc.2.1, hc.2.2⟩
    · simp at h
theorem getSubs_eq (lo hi lo' hi' : Nat) (left left' : Bool) (h1 : lo ≤ 1) (h2 : 1999999999999999999 ≤ hi) (h1' : lo' ≤ 1) (h2' : 1999999999999999999 ≤ hi') (s : List UInt8) : getSubs lo hi left s = getSubs lo' hi' left' s := by
  cases h : getSubs lo hi left s with
  | some l =>
    obtain ⟨e1, e2⟩ := getSubs_some h
    rw [← e2, getSubs_of lo' hi' left' h1' h2' l e1]
  | none =>
    cases h' : getSubs lo' hi' left' s with
    | none => rfl
    | some l =>
      obtain ⟨e1, e2⟩ := getSubs_some h'
      rw [← e2, getSubs_of lo hi left h1 h2 l e1] at h
      cases h
def subsOf (s : List UInt8) : Option (List ByteArray) := getSubs 1 1999999999999999999 true s
/-- What stands ahead of the first mark. -/
def headL (k : List UInt8) : List UInt8 := k.takeWhile (· != 1)
/-- The place whose key a string is. -/
def placeOf (k : ByteArray) : Option (ByteArray × List ByteArray) :=
  if (headL k.data.toList).length < k.size ∧ nameB (bs (headL k.data.toList)) = true then (subsOf (k.data.toList.drop ((headL k.data.toList).length + 1))).map fun l => (bs (headL k.data.toList), l) else none
def keyB (k : ByteArray) : Bool := (placeOf k).isSome
theorem takeSub_len {lo hi : Nat} {l : List UInt8} {t : ByteArray} {r : List UInt8} (h : takeSub lo hi l = some (t, r)) : r.length < l.length ∧ t.size ≤ l.length + 20 := by
  cases l with
  | nil => simp [takeSub] at h
  | cons c l =>
    rw [takeSub] at h
    split at h
    · unfold takeNum at h
      split at h
      · rename_i hc
        injection h with h
        injection h with h3 h4
        subst h3 h4
        have := numTx_size ((beV (l.take 8) : Int) - 1000000000000000000)
        exact ⟨by simp only [List.length_drop, List.length_cons]; omega, by omega⟩
      · simp at h
    · split at h
      · rw [Option.map_eq_some_iff] at h
        obtain ⟨⟨t', r'⟩, e1, e2⟩ := h
        injection e2 with e2 e3
        subst e2 e3
        have := decS_len _ _ _ e1
        have hb := bs_size t'
        simp only [List.length_cons]
        omega
      · simp at h
end Go.Proofs.YtfehlcbaalbajaaGreatDoor
