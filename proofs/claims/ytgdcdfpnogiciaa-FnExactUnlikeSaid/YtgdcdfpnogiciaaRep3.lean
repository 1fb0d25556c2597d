/-
  Marks: writing into owned memory. No program is named here.
-/
import Derived.Test.YtgdcdfpnogiciaaRep2
namespace Go.Proofs.Ytgdcdfpnogiciaa
open Go.RowKit
set_option linter.unusedVariables false

/-- At most the blocks of bl, and new ones, have turned. -/
structure Only (bl : List Nat) (w w' : World) : Prop where
  os : w'.os = w.os
  tape : w'.tape = w.tape
  output : w'.output = w.output
  size : w.heap.size ≤ w'.heap.size
  block : ∀ k, k < w.heap.size → k ∉ bl → w'.heap[k]? = w.heap[k]?
theorem Only.refl (bl : List Nat) (w : World) : Only bl w w := ⟨rfl, rfl, rfl, Nat.le_refl _, fun _ _ _ => rfl⟩
theorem Only.trans {bl : List Nat} {a b c : World} (h : Only bl a b) (k : Only bl b c) : Only bl a c :=
  ⟨k.os.trans h.os, k.tape.trans h.tape, k.output.trans h.output, Nat.le_trans h.size k.size, fun i hi hn => (k.block i (Nat.lt_of_lt_of_le hi h.size) hn).trans (h.block i hi hn)⟩
theorem Only.up {bl : List Nat} {a b c : World} (h : Only bl a b) (k : Up b c) : Only bl a c :=
  ⟨k.os.trans h.os, k.tape.trans h.tape, k.output.trans h.output, Nat.le_trans h.size k.size, fun i hi hn => (k.block i (Nat.lt_of_lt_of_le hi h.size)).trans (h.block i hi hn)⟩
theorem Only.of_up {bl : List Nat} {a b : World} (k : Up a b) : Only bl a b := (Only.refl bl a).up k
theorem Only.but {bl : List Nat} {a b c : World} {g : Nat} (h : Only bl a b) (k : But g b c) (hg : g ∈ bl) : Only bl a c :=
  ⟨k.os.trans h.os, k.tape.trans h.tape, k.output.trans h.output, by rw [k.size]; exact h.size, fun i hi hn => (k.block i (fun e => hn (e ▸ hg))).trans (h.block i hi hn)⟩
theorem Only.mono {bl bl' : List Nat} {a b : World} (h : Only bl a b) (hs : ∀ x ∈ bl, x ∈ bl') : Only bl' a b := ⟨h.os, h.tape, h.output, h.size, fun k hk hn => h.block k hk (fun hm => hn (hs k hm))⟩
/-- Blocks that were there when the call began are as they were, where the marked blocks are all younger. -/
theorem Up.only {w a b : World} {bl : List Nat} (h : Up w a) (k : Only bl a b) (hb : ∀ x ∈ bl, w.heap.size ≤ x) : Up w b :=
  ⟨k.os.trans h.os, k.tape.trans h.tape, k.output.trans h.output, Nat.le_trans h.size k.size, fun i hi => (k.block i (Nat.lt_of_lt_of_le hi h.size) (fun hm => by have := hb i hm; omega)).trans (h.block i hi)⟩
theorem Bk.only {w w' : World} {g : Nat} {t : TypeId} {C : Array Value} {bl : List Nat} (h : Bk w g t C) (k : Only bl w w') (hg : g ∉ bl) : Bk w' g t C := (k.block g h.lt hg).trans h

/-- How marks count and what they leave: 'cnt' numbers are used, 'mark x k' is x marked from k on. -/
structure Mk (α : Type) where
  cnt : α → Nat
  mark : α → Int → α
/-- The digits of k put before out. -/
def dg : Nat → Nat → ByteArray → ByteArray
  | 0, _, out => out
  | f + 1, k, out => if k = 0 then out else dg f (k / 10) (⟨#[UInt8.ofNat (48 + k % 10)]⟩ ++ out)
def mtext (k : Int) : ByteArray := ⟨#[109]⟩ ++ dg k.toNat k.toNat ⟨#[]⟩
theorem dg_zero (f : Nat) (out : ByteArray) : dg f 0 out = out := by cases f <;> simp [dg]
theorem dg_size (f : Nat) : ∀ (k : Nat) (out : ByteArray), (dg f k out).size ≤ out.size + f := by
  induction f with
  | zero => intro k out; exact Nat.le_refl _
  | succ f ih =>
    intro k out
    unfold dg
    split
    · omega
    · have h := ih (k / 10) (⟨#[UInt8.ofNat (48 + k % 10)]⟩ ++ out)
      rw [ByteArray.size_append] at h
      have : (ByteArray.mk #[UInt8.ofNat (48 + k % 10)]).size = 1 := rfl
      omega
theorem mtext_size (k : Int) : (mtext k).size ≤ k.toNat + 1 := by
  unfold mtext
  rw [ByteArray.size_append]
  have h := dg_size k.toNat k.toNat ⟨#[]⟩
  have h1 : (ByteArray.mk #[109]).size = 1 := rfl
  have h2 : (ByteArray.mk #[]).size = 0 := rfl
  omega

def mkI : Mk Int := ⟨fun _ => 1, fun _ k => k⟩
def mkB : Mk Bool := ⟨fun _ => 1, fun _ k => k % 3 == 0⟩
def mkS : Mk ByteArray := ⟨fun _ => 1, fun _ k => mtext k⟩
def mk0 {α : Type} : Mk α := ⟨fun _ => 0, fun x _ => x⟩
def mkP {α β : Type} (a : Mk α) (b : Mk β) : Mk (α × β) := ⟨fun p => a.cnt p.1 + b.cnt p.2, fun p k => (a.mark p.1 k, b.mark p.2 (k + a.cnt p.1))⟩
def markL {α : Type} (m : Mk α) : List α → Int → List α
  | [], _ => []
  | x :: xs, k => m.mark x k :: markL m xs (k + m.cnt x)
def mkL {α : Type} (m : Mk α) : Mk (List α) := ⟨fun xs => (xs.map m.cnt).sum, fun xs k => markL m xs k⟩
structure GoodM {α : Type} (m : Mk α) : Prop where
  idem : ∀ x k, m.mark (m.mark x k) k = m.mark x k
  same : ∀ x k, m.cnt (m.mark x k) = m.cnt x
theorem gm_I : GoodM mkI := ⟨fun _ _ => rfl, fun _ _ => rfl⟩
theorem gm_B : GoodM mkB := ⟨fun _ _ => rfl, fun _ _ => rfl⟩
theorem gm_S : GoodM mkS := ⟨fun _ _ => rfl, fun _ _ => rfl⟩
theorem gm_0 {α : Type} : GoodM (mk0 (α := α)) := ⟨fun _ _ => rfl, fun _ _ => rfl⟩
theorem gm_P {α β : Type} {a : Mk α} {b : Mk β} (ha : GoodM a) (hb : GoodM b) : GoodM (mkP a b) :=
  ⟨fun p k => by
    show (a.mark (a.mark p.1 k) k, b.mark (b.mark p.2 (k + a.cnt p.1)) (k + a.cnt (a.mark p.1 k))) = (a.mark p.1 k, b.mark p.2 (k + a.cnt p.1))
    rw [ha.same, ha.idem, hb.idem], fun p k => by
    show a.cnt (a.mark p.1 k) + b.cnt (b.mark p.2 (k + a.cnt p.1)) = a.cnt p.1 + b.cnt p.2
    rw [ha.same, hb.same]⟩
theorem gm_L {α : Type} {m : Mk α} (h : GoodM m) : GoodM (mkL m) := by
  refine ⟨fun xs => ?_, fun xs => ?_⟩
  · show ∀ k, markL m (markL m xs k) k = markL m xs k
    induction xs with
    | nil => intro k; rfl
    | cons x xs ih => intro k; simp only [markL]; rw [h.idem, h.same, ih]
  · show ∀ k, ((markL m xs k).map m.cnt).sum = (xs.map m.cnt).sum
    induction xs with
    | nil => intro k; rfl
    | cons x xs ih => intro k; simp only [markL, List.map_cons, List.sum_cons]; rw [h.same, ih]
section
variable {α : Type} (m : Mk α)
theorem markL_len : ∀ (xs : List α) (k : Int), (markL m xs k).length = xs.length
  | [], _ => rfl
  | x :: xs, k => by simp [markL, markL_len xs]
theorem markL_append : ∀ (a b : List α) (k : Int), markL m (a ++ b) k = markL m a k ++ markL m b (k + ((a.map m.cnt).sum : Nat))
  | [], b, k => by simp [markL]
  | x :: a, b, k => by simp only [List.cons_append, markL, markL_append a b, List.map_cons, List.sum_cons]; congr 3; omega
theorem markL_at (xs : List α) (k : Int) (i : Nat) (h : i < xs.length) : (markL m xs k)[i]'(by rw [markL_len]; exact h) = m.mark xs[i] (k + psum m.cnt xs i) := by
  have e : xs = xs.take i ++ (xs[i] :: xs.drop (i + 1)) := by rw [List.getElem_cons_drop, List.take_append_drop]
  have h2 : markL m xs k = markL m (xs.take i) k ++ (m.mark xs[i] (k + psum m.cnt xs i) :: markL m (xs.drop (i + 1)) (k + psum m.cnt xs i + m.cnt xs[i])) := by
    conv => lhs; rw [e]
    rw [markL_append]
    rfl
  have hl : (markL m (xs.take i) k).length = i := by rw [markL_len]; simp; omega
  have : (markL m xs k)[i]? = some (m.mark xs[i] (k + psum m.cnt xs i)) := by
    rw [h2, List.getElem?_append_right (by omega), hl]; simp
  rw [List.getElem?_eq_getElem (by rw [markL_len]; exact h)] at this
  injection this
/-- The list with its first i elements marked. -/
def pm (xs : List α) (k : Int) (i : Nat) : List α := markL m (xs.take i) k ++ xs.drop i
theorem pm_zero (xs : List α) (k : Int) : pm m xs k 0 = xs := by simp [pm, markL]
theorem pm_len (xs : List α) (k : Int) (i : Nat) (h : i ≤ xs.length) : (pm m xs k i).length = xs.length := by simp [pm, markL_len]; omega
theorem pm_all (xs : List α) (k : Int) (i : Nat) (h : xs.length ≤ i) : pm m xs k i = markL m xs k := by simp [pm, List.take_of_length_le h, List.drop_of_length_le h]
theorem pm_at (xs : List α) (k : Int) (i : Nat) (h : i < xs.length) : (pm m xs k i)[i]? = some xs[i] := by
  have hl : (markL m (xs.take i) k).length = i := by rw [markL_len]; simp; omega
  unfold pm
  rw [List.getElem?_append_right (by omega), hl]
  simp [h]
theorem pm_succ (xs : List α) (k : Int) (i : Nat) (h : i < xs.length) : (pm m xs k i).set i (m.mark xs[i] (k + psum m.cnt xs i)) = pm m xs k (i + 1) := by
  have hl : (markL m (xs.take i) k).length = i := by rw [markL_len]; simp; omega
  unfold pm
  rw [List.set_append_right _ _ (by omega), hl, Nat.sub_self, List.take_succ_eq_append_getElem h, markL_append, List.drop_eq_getElem_cons h, List.set_cons_zero]
  simp [markL, psum]
end

theorem nodup_mem_flatten {bls : List (List Nat)} (h : bls.flatten.Nodup) {i : Nat} {b : List Nat} (hb : bls[i]? = some b) : b.Nodup ∧ ∀ j c, bls[j]? = some c → j ≠ i → ∀ x ∈ c, x ∉ b := by
  induction bls generalizing i with
  | nil => simp at hb
  | cons l bls ih =>
    simp only [List.flatten_cons, List.nodup_append] at h
    obtain ⟨h1, h2, h3⟩ := h
    cases i with
    | zero =>
      simp at hb; subst hb
      refine ⟨h1, fun j c hc hj x hx hxl => ?_⟩
      cases j with
      | zero => exact hj rfl
      | succ j => simp at hc; exact h3 x hxl x (List.mem_flatten.2 ⟨c, List.mem_of_getElem? hc, hx⟩) rfl
    | succ i =>
      simp at hb
      obtain ⟨g1, g2⟩ := ih h2 hb
      refine ⟨g1, fun j c hc hj x hx hxb => ?_⟩
      cases j with
      | zero => simp at hc; subst hc; exact h3 x hx x (List.mem_flatten.2 ⟨b, List.mem_of_getElem? hb, hxb⟩) rfl
      | succ j => simp at hc; exact g2 j c hc (by omega) x hx hxb

/-- One element of an owned slice, looked at, and put back changed. -/
theorem SO.focus {α : Type} {s : Sh α} (hg : Good s) {w : World} {lo hi : Nat} {A : Option Addr} {c : Nat} {xs : List α} {bl : List Nat} (h : SO s w lo hi A c xs bl) (nd : bl.Nodup) {i : Nat} {x : α} (hx : xs[i]? = some x) :
    ∃ (g off : Nat) (C : Array Value) (tid : TypeId) (b : List Nat) (cs : List Value), A = some ⟨g, off, none⟩ ∧ lo ≤ g ∧ g < hi ∧ Bk w g tid C ∧ cs.length = s.size ∧ (∀ j, j < s.size → C[off + (i * s.size + j)]? = cs[j]?) ∧ s.own w lo hi cs x b ∧
      g ∈ bl ∧ g ∉ b ∧ b.Nodup ∧ (∀ y ∈ b, y ∈ bl) ∧
      ∀ (w' : World) (C' : Array Value) (cs' : List Value) (x' : α), Bk w' g tid C' → (∀ j, j < s.size → C'[off + (i * s.size + j)]? = cs'[j]?) → (∀ p, (p < off + i * s.size ∨ off + i * s.size + s.size ≤ p) → C'[p]? = C[p]?) → s.own w' lo hi cs' x' b → (∀ y ∈ bl, y ≠ g → y ∉ b → w'.heap[y]? = w.heap[y]?) → SO s w' lo hi A c (xs.set i x') bl := by
  have hi' : i < xs.length := by
    rcases Nat.lt_or_ge i xs.length with h | h
    · exact h
    · rw [List.getElem?_eq_none h] at hx; cases hx
  rcases h.2.2 with ⟨rfl, _⟩ | ⟨g, off, C, tid, bls, hA, h1, h2, hh, hcap, rfl, hbl, h3⟩
  · simp at hi'
  · obtain ⟨cs, b, hb, hl, hc, ho⟩ := h3 i hi'
    rw [List.getElem?_eq_getElem hi'] at hx
    injection hx with hx
    subst hx
    have nd' := List.nodup_cons.1 nd
    obtain ⟨nb, nother⟩ := nodup_mem_flatten nd'.2 hb
    have hin : ∀ y ∈ b, y ∈ bls.flatten := fun y hy => List.mem_flatten.2 ⟨b, List.mem_of_getElem? hb, hy⟩
    refine ⟨g, off, C, tid, b, cs, hA, h1, h2, hh, hl, hc, ho, List.mem_cons_self, fun hgb => nd'.1 (hin g hgb), nb, fun y hy => List.mem_cons_of_mem _ (hin y hy), fun w' C' cs' x' hbk' hin' hout' ho' hrest => ?_⟩
    have hl' := hg.len (hg.own_rep ho')
    have hcap' : off + c * s.size ≤ C'.size := by
      rcases Nat.eq_zero_or_pos (c * s.size) with hz | hz
      · have hp := hg.pos
        have h1 := h.1
        have : 0 < c := by omega
        have := Nat.mul_pos this hp
        omega
      · rcases Nat.lt_or_ge (off + (c * s.size - 1)) (off + i * s.size) with ha | ha
        · have e := hout' (off + (c * s.size - 1)) (.inl ha)
          rw [Array.getElem?_eq_getElem (show off + (c * s.size - 1) < C.size by omega)] at e
          have := (Array.getElem?_eq_some_iff.1 e).1
          omega
        · rcases Nat.lt_or_ge (off + (c * s.size - 1)) (off + i * s.size + s.size) with hb' | hb'
          · obtain ⟨j, hj⟩ : ∃ j, off + (c * s.size - 1) = off + (i * s.size + j) := ⟨c * s.size - 1 - i * s.size, by omega⟩
            have e := hin' j (by omega)
            rw [List.getElem?_eq_getElem (show j < cs'.length by rw [hl']; omega)] at e
            have := (Array.getElem?_eq_some_iff.1 e).1
            omega
          · have e := hout' (off + (c * s.size - 1)) (.inr hb')
            rw [Array.getElem?_eq_getElem (show off + (c * s.size - 1) < C.size by omega)] at e
            have := (Array.getElem?_eq_some_iff.1 e).1
            omega
    refine ⟨by simpa using h.1, h.2.1, .inr ⟨g, off, _, tid, bls, hA, h1, h2, hbk', hcap', rfl, by simpa using hbl, fun j hj => ?_⟩⟩
    have hj' : j < xs.length := by simpa using hj
    by_cases hji : j = i
    · subst hji
      exact ⟨cs', b, hb, hl', hin', by simpa using ho'⟩
    · obtain ⟨cs1, b1, hb1, hl1, hc1, ho1⟩ := h3 j hj'
      refine ⟨cs1, b1, hb1, hl1, fun q hq => ?_, ?_⟩
      · rw [hout']
        · exact hc1 q hq
        · rcases Nat.lt_or_ge j i with hlt | hge
          · have : (j + 1) * s.size ≤ i * s.size := Nat.mul_le_mul_right _ hlt
            rw [Nat.succ_mul] at this
            omega
          · have : (i + 1) * s.size ≤ j * s.size := Nat.mul_le_mul_right _ (by omega)
            rw [Nat.succ_mul] at this
            omega
      · have : (xs.set i x')[j]'hj = xs[j] := by rw [List.getElem_set_ne (by omega)]
        rw [this]
        refine hg.own_keep ho1 fun y hy => hrest y (List.mem_cons_of_mem _ (List.mem_flatten.2 ⟨b1, List.mem_of_getElem? hb1, hy⟩)) (fun e => ?_) (nother j b1 hb1 hji y hy)
        subst e
        exact nd'.1 (List.mem_flatten.2 ⟨b1, List.mem_of_getElem? hb1, hy⟩)

theorem set_same {C : Array Value} {p q : Nat} {v u : Value} (e : q = p) (h : C[p]? = some u) : (C.setIfInBounds p v)[q]? = some v := by
  subst e
  have := (Array.getElem?_eq_some_iff.1 h).1
  simp [this]
theorem set_ne {C : Array Value} {p q : Nat} {v : Value} (e : q ≠ p) : (C.setIfInBounds p v)[q]? = C[q]? := Array.getElem?_setIfInBounds_ne (fun h => e h.symm)
/-- What a helper that marks a slice gives. -/
def MarkL {α : Type} (s : Sh α) (m : Mk α) (lo hi : Nat) (A : Option Addr) (c : Nat) (xs : List α) (k : Int) (bl : List Nat) (w : World) (e : Ending) (w' : World) : Prop :=
  e = .returned (.int .i64 (k + ((mkL m).cnt xs : Nat))) ∧ SO s w' lo hi A c (markL m xs k) bl ∧ Only bl w w'
/-- What a helper that looks for marks gives, where they stand. -/
def HeldP (n : Int) (w : World) (e : Ending) (w' : World) : Prop := e = .returned (.int .i64 n) ∧ Up w w'
theorem MarkL.mk {α : Type} {s : Sh α} {m : Mk α} {lo hi : Nat} {A : Option Addr} {c : Nat} {xs : List α} {k n : Int} {bl : List Nat} {w w' : World} (h : Hid (n = k + ((mkL m).cnt xs : Nat))) (hs : SO s w' lo hi A c (markL m xs k) bl) (ho : Only bl w w') : MarkL s m lo hi A c xs k bl w (.returned (.int .i64 n)) w' := ⟨by rw [h.out], hs, ho⟩
theorem HeldP.mk {n k : Int} {w w' : World} (h : Hid (n = k)) (u : Up w w') : HeldP k w (.returned (.int .i64 n)) w' := ⟨by rw [h.out], u⟩
theorem marked_at {α : Type} {m : Mk α} {xs : List α} {k : Int} (h : markL m xs k = xs) {i : Nat} (hi : i < xs.length) : m.mark xs[i] (k + psum m.cnt xs i) = xs[i] := by
  rw [← markL_at m xs k i hi]; congr 1
theorem mtext_le {k : Int} (h : k ≤ 1000000000) : (mtext k).size ≤ maxLen := by
  have := mtext_size k
  unfold maxLen
  omega
/-- What a helper that marks a struct handed over by value gives. -/
def MarkV {α : Type} (s : Sh α) (m : Mk α) (lo hi : Nat) (cs : List Value) (x : α) (k : Int) (bl : List Nat) (w : World) (e : Ending) (w' : World) : Prop :=
  e = .returned (.int .i64 (k + (m.cnt x : Nat))) ∧ s.own w' lo hi cs (m.mark x k) bl ∧ Only bl w w'
theorem MarkV.mk {α : Type} {s : Sh α} {m : Mk α} {lo hi : Nat} {cs : List Value} {x : α} {k n : Int} {bl : List Nat} {w w' : World} (h : Hid (n = k + (m.cnt x : Nat))) (hs : s.own w' lo hi cs (m.mark x k) bl) (ho : Only bl w w') : MarkV s m lo hi cs x k bl w (.returned (.int .i64 n)) w' := ⟨by rw [h.out], hs, ho⟩

/-! ### Results in memory, read or owned, with a code beside them -/
def RpV {α : Type} (s : Sh α) (x : α) (w : World) (e : Ending) (w' : World) : Prop := ∃ cs, e = .returned (.agg cs.toArray) ∧ s.rep w' 0 w'.heap.size cs x ∧ Up w w'
def RpR {α : Type} (s : Sh α) (x : α) (n : Int) (w : World) (e : Ending) (w' : World) : Prop := ∃ cs, e = .returned (.tuple #[.agg cs.toArray, .int .i64 n]) ∧ s.rep w' 0 w'.heap.size cs x ∧ Up w w'
def RpL {α : Type} (s : Sh α) (xs : List α) (w : World) (e : Ending) (w' : World) : Prop := ∃ A c, e = .returned (.slice A xs.length c) ∧ SRW s w' A c xs ∧ Up w w'
def ToR {α : Type} (s : Sh α) (x : α) (n : Int) (w : World) (e : Ending) (w' : World) : Prop := ∃ cs bl, e = .returned (.tuple #[.agg cs.toArray, .int .i64 n]) ∧ s.own w' w.heap.size w'.heap.size cs x bl ∧ bl.Nodup ∧ Up w w'
theorem ToV.rp {α : Type} {s : Sh α} (hg : Good s) {x : α} {w w' : World} {e : Ending} (h : ToV s x w e w') : RpV s x w e w' := by
  obtain ⟨cs, bl, he, ho, _, hu⟩ := h
  exact ⟨cs, he, hg.wide (hg.own_rep ho) (Nat.zero_le _) (Nat.le_refl _), hu⟩
theorem ToR.rp {α : Type} {s : Sh α} (hg : Good s) {x : α} {n : Int} {w w' : World} {e : Ending} (h : ToR s x n w e w') : RpR s x n w e w' := by
  obtain ⟨cs, bl, he, ho, _, hu⟩ := h
  exact ⟨cs, he, hg.wide (hg.own_rep ho) (Nat.zero_le _) (Nat.le_refl _), hu⟩
theorem ToL.rp {α : Type} {s : Sh α} (hg : Good s) {xs : List α} {w w' : World} {e : Ending} (h : ToL s xs w e w') : RpL s xs w e w' := by
  obtain ⟨A, c, bl, he, ho, _, hu⟩ := h
  exact ⟨A, c, he, SR.of_own hg ho, hu⟩
theorem SR.of_rep {α : Type} {s : Sh α} (hg : Good s) {w : World} {lo hi : Nat} {A : Option Addr} {n c : Nat} {xs : List α} (h : (shL s).rep w lo hi [.slice A n c] xs) : SR s w lo hi A c xs := by
  obtain ⟨A', c', e, h⟩ := h
  simp only [List.cons.injEq, Value.slice.injEq, and_true] at e
  obtain ⟨rfl, _, rfl⟩ := e
  exact h
theorem SO.of_own {α : Type} {s : Sh α} {w : World} {lo hi : Nat} {A : Option Addr} {n c : Nat} {xs : List α} {bl : List Nat} (h : (shL s).own w lo hi [.slice A n c] xs bl) : SO s w lo hi A c xs bl := by
  obtain ⟨A', c', e, h⟩ := h
  simp only [List.cons.injEq, Value.slice.injEq, and_true] at e
  obtain ⟨rfl, _, rfl⟩ := e
  exact h
theorem SO.to_own {α : Type} {s : Sh α} {w : World} {lo hi : Nat} {A : Option Addr} {n c : Nat} {xs : List α} {bl : List Nat} (hl : xs.length = n) (h : SO s w lo hi A c xs bl) : (shL s).own w lo hi [.slice A n c] xs bl := ⟨A, c, by rw [hl], h⟩
end Go.Proofs.Ytgdcdfpnogiciaa
