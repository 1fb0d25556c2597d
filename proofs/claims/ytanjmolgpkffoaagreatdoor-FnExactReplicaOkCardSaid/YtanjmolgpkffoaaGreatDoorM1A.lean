/-
  Lemmas of ours: how Go's values of plain data lie in memory. 'Sh a' is a shape: cells that represent a Lean value; 'rep': they read as it, inside blocks lo .. hi; 'own': they own their blocks. No program is named here.
  Contracts of the smallest functions.
  Building a row of owned elements, cell by cell. No program is named here.
  append onto an empty slice: a new row that is owned. No program is named here.
  Marks: writing into owned memory. No program is named here.
  append onto an owned slice: in its own row, or a new one. No program is named here.
  Strings of zero bytes: make and strings.Repeat.
  Numbers as bytes, the lowest first: little, l18Fix.
-/
import Derived.WalkKit
import Derived.WalkSpells
import Derived.WalkLawsBesides
import Derived.Deep.Slices
import Derived.Deep.Fields
import Derived.Deep.Draws
import Derived.Deep.QuietTactic
import Derived.BigQuiet
import Derived.Lib.Hide
import Derived.Test.YtanjmolgpkffoaaGreatDoorRows
import Derived.Deep.AppendLies
import Derived.Deep.AppendSrc
import Derived.Deep.Upon
import Derived.Test.YtanjmolgpkffoaaGreatDoorShelf
import Derived.Lib.SlBytesRow
import Derived.Lib.Repeat
import Derived.Laws.BitsAllLaws
import Derived.Lib.ConvBytes
namespace Go.Proofs.YtanjmolgpkffoaaGreatDoor
open Go.RowKit Go.ChangeShapes Go.WideShapes Go.Deep

/-! ### Worlds that only grow -/
abbrev Up (w w' : World) : Prop := Below w.heap.size w w'
theorem Up.refl (w : World) : Up w w := Below.refl _ _
theorem Up.trans {a b c : World} (h : Up a b) (k : Up b c) : Up a c := Below.trans h (Below.mono k h.size)
theorem Up.alloc {a w : World} (h : Up a w) (o : Obj) : Up a (w.alloc o) := Below.alloc h h.size o
theorem Up.drew {a w : World} (h : Up a w) : Up a w.drew := Below.drew h
theorem Up.drewN {a w : World} (h : Up a w) (n : Nat) : Up a (w.drewN n) := ⟨h.os, h.tape, h.output, h.size, h.block⟩
theorem Up.setCell {a w : World} (h : Up a w) {p : Addr} (hp : a.heap.size ≤ p.block) (u : Value) : Up a (w.setCell p u) := Below.setCell h hp u
theorem Up.q {a w : World} (h : ∃ n, w = a.drewN n) : Up a w := by obtain ⟨n, rfl⟩ := h; exact (Up.refl a).drewN n
def Keeps (lo hi : Nat) (w w' : World) : Prop := ∀ b, lo ≤ b → b < hi → w'.heap[b]? = w.heap[b]?
theorem Up.keeps {a w : World} (h : Up a w) {lo hi : Nat} (hh : hi ≤ a.heap.size) : Keeps lo hi a w := fun b _ hb => h.block b (by omega)

/-! ### Shapes -/
structure Sh (α : Type) where
  size : Nat
  rep : World → Nat → Nat → List Value → α → Prop
  own : World → Nat → Nat → List Value → α → List Nat → Prop
  sz : α → Nat

structure Good {α : Type} (s : Sh α) : Prop where
  len : ∀ {w lo hi cs x}, s.rep w lo hi cs x → cs.length = s.size
  keep : ∀ {w w' lo hi cs x}, s.rep w lo hi cs x → Keeps lo hi w w' → s.rep w' lo hi cs x
  wide : ∀ {w lo hi lo' hi' cs x}, s.rep w lo hi cs x → lo' ≤ lo → hi ≤ hi' → s.rep w lo' hi' cs x
  own_rep : ∀ {w lo hi cs x bl}, s.own w lo hi cs x bl → s.rep w lo hi cs x
  own_in : ∀ {w lo hi cs x bl}, s.own w lo hi cs x bl → ∀ b ∈ bl, lo ≤ b ∧ b < hi
  own_keep : ∀ {w w' lo hi cs x bl}, s.own w lo hi cs x bl → (∀ b ∈ bl, w'.heap[b]? = w.heap[b]?) → s.own w' lo hi cs x bl
  own_wide : ∀ {w lo hi lo' hi' cs x bl}, s.own w lo hi cs x bl → lo' ≤ lo → hi ≤ hi' → s.own w lo' hi' cs x bl
  own_le : ∀ {w lo hi cs x bl}, s.own w lo hi cs x bl → hi ≤ w.heap.size ∨ ∀ b ∈ bl, b < w.heap.size
  pos : 0 < s.size
  one : ∀ {w lo hi cs x}, s.rep w lo hi cs x → ∀ u ∈ cs, u.oneCell' = true

def shI : Sh Int where
  size := 1
  rep := fun _ _ _ cs n => cs = [.int .i64 n] ∧ -9223372036854775808 ≤ n ∧ n ≤ 9223372036854775807
  own := fun _ _ _ cs n bl => (cs = [.int .i64 n] ∧ -9223372036854775808 ≤ n ∧ n ≤ 9223372036854775807) ∧ bl = []
  sz := fun _ => 0
def shB : Sh Bool where
  size := 1
  rep := fun _ _ _ cs b => cs = [.bool b]
  own := fun _ _ _ cs b bl => cs = [.bool b] ∧ bl = []
  sz := fun _ => 0
def shS : Sh ByteArray where
  size := 1
  rep := fun _ _ _ cs s => cs = [.string s] ∧ s.size ≤ maxLen
  own := fun _ _ _ cs s bl => (cs = [.string s] ∧ s.size ≤ maxLen) ∧ bl = []
  sz := fun s => s.size
def shP {α β : Type} (a : Sh α) (b : Sh β) : Sh (α × β) where
  size := a.size + b.size
  rep := fun w lo hi cs p => a.rep w lo hi (cs.take a.size) p.1 ∧ b.rep w lo hi (cs.drop a.size) p.2
  own := fun w lo hi cs p bl => ∃ b1 b2, bl = b1 ++ b2 ∧ a.own w lo hi (cs.take a.size) p.1 b1 ∧ b.own w lo hi (cs.drop a.size) p.2 b2
  sz := fun p => a.sz p.1 + b.sz p.2

/-- The cells of element i of a row. -/
def ElemAt (w : World) (g off size i : Nat) (cs : List Value) : Prop := cs.length = size ∧ ∀ j, j < size → w.cell? ⟨g, off + (i * size + j), none⟩ = cs[j]?

/-- A slice that reads as a list: its value is '.slice A xs.length c'. -/
def SR {α : Type} (s : Sh α) (w : World) (lo hi : Nat) (A : Option Addr) (c : Nat) (xs : List α) : Prop :=
  xs.length ≤ c ∧ c ≤ maxLen ∧ (0 < xs.length → ∃ g off, A = some ⟨g, off, none⟩ ∧ lo ≤ g ∧ g < hi ∧ ∀ i (h : i < xs.length), ∃ cs, ElemAt w g off s.size i cs ∧ s.rep w lo hi cs xs[i])

/-- A slice that owns its row and what its elements own. -/
def SO {α : Type} (s : Sh α) (w : World) (lo hi : Nat) (A : Option Addr) (c : Nat) (xs : List α) (bl : List Nat) : Prop :=
  xs.length ≤ c ∧ c ≤ maxLen ∧ ((xs = [] ∧ bl = [] ∧ c = 0) ∨ ∃ (g off : Nat) (C : Array Value) (tid : TypeId) (bls : List (List Nat)), A = some ⟨g, off, none⟩ ∧ lo ≤ g ∧ g < hi ∧ w.heap[g]? = some (.cells C tid (0, 0)) ∧ off + c * s.size ≤ C.size ∧ bl = g :: bls.flatten ∧ bls.length = xs.length ∧
    ∀ i (h : i < xs.length), ∃ cs b, bls[i]? = some b ∧ cs.length = s.size ∧ (∀ j, j < s.size → C[off + (i * s.size + j)]? = cs[j]?) ∧ s.own w lo hi cs xs[i] b)

def shL {α : Type} (s : Sh α) : Sh (List α) where
  size := 1
  rep := fun w lo hi cs xs => ∃ A c, cs = [.slice A xs.length c] ∧ SR s w lo hi A c xs
  own := fun w lo hi cs xs bl => ∃ A c, cs = [.slice A xs.length c] ∧ SO s w lo hi A c xs bl
  sz := fun xs => xs.length + (xs.map s.sz).sum

theorem good_I : Good shI := by
  refine ⟨?_, ?_, ?_, ?_, ?_, ?_, ?_, ?_, by decide, ?_⟩ <;> simp +contextual [shI, Value.oneCell']
theorem good_B : Good shB := by
  refine ⟨?_, ?_, ?_, ?_, ?_, ?_, ?_, ?_, by decide, ?_⟩ <;> simp +contextual [shB, Value.oneCell']
theorem good_S : Good shS := by
  refine ⟨?_, ?_, ?_, ?_, ?_, ?_, ?_, ?_, by decide, ?_⟩ <;> simp +contextual [shS, Value.oneCell']
theorem good_P {α β : Type} {a : Sh α} {b : Sh β} (ha : Good a) (hb : Good b) : Good (shP a b) where
  len := fun {w lo hi cs x} h => by
    have h1 := ha.len h.1
    have h2 := hb.len h.2
    have hp := hb.pos
    simp only [List.length_take, List.length_drop] at h1 h2
    show cs.length = a.size + b.size
    omega
  keep := fun h k => ⟨ha.keep h.1 k, hb.keep h.2 k⟩
  wide := fun h k l => ⟨ha.wide h.1 k l, hb.wide h.2 k l⟩
  own_rep := fun h => by obtain ⟨_, _, _, h1, h2⟩ := h; exact ⟨ha.own_rep h1, hb.own_rep h2⟩
  own_in := fun h b hb' => by
    obtain ⟨_, _, rfl, h1, h2⟩ := h
    rcases List.mem_append.1 hb' with h | h
    · exact ha.own_in h1 b h
    · exact hb.own_in h2 b h
  own_keep := fun h k => by
    obtain ⟨b1, b2, rfl, h1, h2⟩ := h
    exact ⟨b1, b2, rfl, ha.own_keep h1 (fun b hb => k b (List.mem_append_left _ hb)), hb.own_keep h2 (fun b hb => k b (List.mem_append_right _ hb))⟩
  own_wide := fun h k l => by
    obtain ⟨b1, b2, rfl, h1, h2⟩ := h
    exact ⟨b1, b2, rfl, ha.own_wide h1 k l, hb.own_wide h2 k l⟩
  own_le := fun h => by
    obtain ⟨b1, b2, rfl, h1, h2⟩ := h
    rcases ha.own_le h1 with h | h
    · exact .inl h
    · rcases hb.own_le h2 with h' | h'
      · exact .inl h'
      · refine .inr fun b hb => ?_
        rcases List.mem_append.1 hb with hb | hb
        · exact h b hb
        · exact h' b hb
  pos := by show 0 < a.size + b.size; have := ha.pos; omega
  one := fun {w lo hi cs x} h u hu => by
    rw [← List.take_append_drop a.size cs] at hu
    rcases List.mem_append.1 hu with hu | hu
    · exact ha.one h.1 u hu
    · exact hb.one h.2 u hu

theorem ElemAt.keep {w w' : World} {lo hi g off size i : Nat} {cs : List Value} (h : ElemAt w g off size i cs) (k : Keeps lo hi w w') (h1 : lo ≤ g) (h2 : g < hi) : ElemAt w' g off size i cs :=
  ⟨h.1, fun j hj => (World.cell?_of_block (w := w) (w' := w') (a := ⟨g, off + (i * size + j), none⟩) (k g h1 h2)).trans (h.2 j hj)⟩

section
variable {α : Type} {s : Sh α} {w w' : World} {lo hi lo' hi' : Nat} {A : Option Addr} {c : Nat} {xs : List α} {bl : List Nat}
theorem SR.keep (hg : Good s) (h : SR s w lo hi A c xs) (k : Keeps lo hi w w') : SR s w' lo hi A c xs := by
  refine ⟨h.1, h.2.1, fun hp => ?_⟩
  obtain ⟨g, off, hA, h1, h2, h3⟩ := h.2.2 hp
  refine ⟨g, off, hA, h1, h2, fun i hi => ?_⟩
  obtain ⟨cs, hc, hr⟩ := h3 i hi
  exact ⟨cs, hc.keep k h1 h2, hg.keep hr k⟩
theorem SR.wide (hg : Good s) (h : SR s w lo hi A c xs) (k : lo' ≤ lo) (l : hi ≤ hi') : SR s w lo' hi' A c xs := by
  refine ⟨h.1, h.2.1, fun hp => ?_⟩
  obtain ⟨g, off, hA, h1, h2, h3⟩ := h.2.2 hp
  refine ⟨g, off, hA, by omega, by omega, fun i hi => ?_⟩
  obtain ⟨cs, hc, hr⟩ := h3 i hi
  exact ⟨cs, hc, hg.wide hr k l⟩
theorem SO.rep (hg : Good s) (h : SO s w lo hi A c xs bl) : SR s w lo hi A c xs := by
  refine ⟨h.1, h.2.1, fun hp => ?_⟩
  rcases h.2.2 with ⟨rfl, _⟩ | ⟨g, off, C, tid, bls, hA, h1, h2, hh, hcap, _, hbl, h3⟩
  · simp at hp
  · refine ⟨g, off, hA, h1, h2, fun i hi => ?_⟩
    obtain ⟨cs, b, _, hl, hc, hr⟩ := h3 i hi
    refine ⟨cs, ⟨hl, fun j hj => ?_⟩, hg.own_rep hr⟩
    rw [← hc j hj]
    simp [World.cell?, hh]
theorem SO.in_ (hg : Good s) (h : SO s w lo hi A c xs bl) : ∀ b ∈ bl, lo ≤ b ∧ b < hi := by
  intro b hb
  rcases h.2.2 with ⟨_, rfl, _⟩ | ⟨g, off, C, tid, bls, hA, h1, h2, hh, hcap, rfl, hbl, h3⟩
  · simp at hb
  · rcases List.mem_cons.1 hb with rfl | hb
    · exact ⟨h1, h2⟩
    · obtain ⟨l, hl, hbl'⟩ := List.mem_flatten.1 hb
      obtain ⟨i, hi, rfl⟩ := List.getElem_of_mem hl
      obtain ⟨cs, b', hb', _, _, hr⟩ := h3 i (by omega)
      rw [List.getElem?_eq_getElem hi] at hb'
      injection hb' with hb'
      subst hb'
      exact hg.own_in hr b hbl'
theorem SO.keep (hg : Good s) (h : SO s w lo hi A c xs bl) (k : ∀ b ∈ bl, w'.heap[b]? = w.heap[b]?) : SO s w' lo hi A c xs bl := by
  refine ⟨h.1, h.2.1, ?_⟩
  rcases h.2.2 with h0 | ⟨g, off, C, tid, bls, hA, h1, h2, hh, hcap, rfl, hbl, h3⟩
  · exact .inl h0
  · refine .inr ⟨g, off, C, tid, bls, hA, h1, h2, (k g (by simp)).trans hh, hcap, rfl, hbl, fun i hi => ?_⟩
    obtain ⟨cs, b, hb, hl, hc, hr⟩ := h3 i hi
    refine ⟨cs, b, hb, hl, hc, hg.own_keep hr fun x hx => k x ?_⟩
    exact List.mem_cons_of_mem _ (List.mem_flatten.2 ⟨b, List.mem_of_getElem? hb, hx⟩)
theorem SO.wide (hg : Good s) (h : SO s w lo hi A c xs bl) (k : lo' ≤ lo) (l : hi ≤ hi') : SO s w lo' hi' A c xs bl := by
  refine ⟨h.1, h.2.1, ?_⟩
  rcases h.2.2 with h0 | ⟨g, off, C, tid, bls, hA, h1, h2, hh, hcap, rfl, hbl, h3⟩
  · exact .inl h0
  · refine .inr ⟨g, off, C, tid, bls, hA, by omega, by omega, hh, hcap, rfl, hbl, fun i hi => ?_⟩
    obtain ⟨cs, b, hb, hl, hc, hr⟩ := h3 i hi
    exact ⟨cs, b, hb, hl, hc, hg.own_wide hr k l⟩
theorem SO.lt (hg : Good s) (h : SO s w lo hi A c xs bl) : hi ≤ w.heap.size ∨ ∀ b ∈ bl, b < w.heap.size := by
  rcases Nat.lt_or_ge w.heap.size hi with hlt | hge
  · refine .inr fun b hb => ?_
    rcases h.2.2 with ⟨_, rfl, _⟩ | ⟨g, off, C, tid, bls, hA, h1, h2, hh, hcap, rfl, hbl, h3⟩
    · simp at hb
    · rcases List.mem_cons.1 hb with rfl | hb
      · rcases Nat.lt_or_ge b w.heap.size with h | h
        · exact h
        · rw [Array.getElem?_eq_none h] at hh; cases hh
      · obtain ⟨l, hl, hbl'⟩ := List.mem_flatten.1 hb
        obtain ⟨i, hi, rfl⟩ := List.getElem_of_mem hl
        obtain ⟨cs, b', hb', _, _, hr⟩ := h3 i (by omega)
        rw [List.getElem?_eq_getElem hi] at hb'
        injection hb' with hb'
        subst hb'
        rcases hg.own_le hr with h | h
        · omega
        · exact h b hbl'
  · exact .inl hge
end

theorem good_L {α : Type} {s : Sh α} (hg : Good s) : Good (shL s) where
  len := fun h => by obtain ⟨A, c, rfl, _⟩ := h; rfl
  keep := fun h k => by obtain ⟨A, c, e, h⟩ := h; exact ⟨A, c, e, h.keep hg k⟩
  wide := fun h k l => by obtain ⟨A, c, e, h⟩ := h; exact ⟨A, c, e, h.wide hg k l⟩
  own_rep := fun h => by obtain ⟨A, c, e, h⟩ := h; exact ⟨A, c, e, h.rep hg⟩
  own_in := fun h => by obtain ⟨A, c, e, h⟩ := h; exact h.in_ hg
  own_keep := fun h k => by obtain ⟨A, c, e, h⟩ := h; exact ⟨A, c, e, h.keep hg k⟩
  own_wide := fun h k l => by obtain ⟨A, c, e, h⟩ := h; exact ⟨A, c, e, h.wide hg k l⟩
  own_le := fun h => by obtain ⟨A, c, e, h⟩ := h; exact h.lt hg
  pos := Nat.one_pos
  one := fun h u hu => by obtain ⟨A, c, rfl, _⟩ := h; simp at hu; subst hu; rfl

/-- An argument of a call: it reads in the world as it stands, wherever it lies. -/
abbrev SRW {α : Type} (s : Sh α) (w : World) (A : Option Addr) (c : Nat) (xs : List α) : Prop := SR s w 0 w.heap.size A c xs
theorem SR.up {α : Type} {s : Sh α} {w w' : World} {A : Option Addr} {c : Nat} {xs : List α} (hg : Good s) (h : SRW s w A c xs) (k : Up w w') : SRW s w' A c xs :=
  (h.keep hg (k.keeps (Nat.le_refl _))).wide hg (Nat.le_refl _) k.size
section
variable {w : World} {lo hi : Nat} {A : Option Addr} {c : Nat}
theorem SR.len_le {α : Type} {s : Sh α} {xs : List α} (h : SR s w lo hi A c xs) : xs.length ≤ 9223372036854775807 := by have := h.1; have h2 := h.2.1; unfold maxLen at h2; omega
theorem SR.at_ {α : Type} {s : Sh α} {xs : List α} (h : SR s w lo hi A c xs) {i : Nat} (hi' : i < xs.length) :
    ∃ g off cs, A = some ⟨g, off, none⟩ ∧ lo ≤ g ∧ g < hi ∧ ElemAt w g off s.size i cs ∧ s.rep w lo hi cs xs[i] := by
  obtain ⟨g, off, hA, h1, h2, h3⟩ := h.2.2 (by omega)
  obtain ⟨cs, hc, hr⟩ := h3 i hi'
  exact ⟨g, off, cs, hA, h1, h2, hc, hr⟩
theorem SR.at_S {xs : List ByteArray} (h : SR shS w lo hi A c xs) {i : Nat} (hi' : i < xs.length) :
    ∃ g off, A = some ⟨g, off, none⟩ ∧ lo ≤ g ∧ g < hi ∧ w.cell? ⟨g, off + i, none⟩ = some (.string xs[i]) ∧ xs[i].size ≤ 9223372036854775807 := by
  obtain ⟨g, off, cs, hA, h1, h2, hc, rfl, hr⟩ := h.at_ hi'
  have := hc.2 0 (by decide)
  exact ⟨g, off, hA, h1, h2, by simpa [shS] using this, by unfold maxLen at hr; omega⟩
theorem SR.nil {α : Type} {s : Sh α} (w : World) (lo hi : Nat) : SR s w lo hi none 0 [] := ⟨Nat.le_refl _, Nat.zero_le _, fun h => absurd h (by simp)⟩
theorem SO.nil {α : Type} {s : Sh α} (w : World) (lo hi : Nat) : SO s w lo hi none 0 [] [] := ⟨Nat.le_refl _, Nat.zero_le _, .inl ⟨rfl, rfl, rfl⟩⟩
end

/-! ### From the row's reading to shapes -/
/-- That a shape fits a type of the program. -/
structure Fits {α : Type} (s : Sh α) (P : Program) (t : TypeId) : Prop where
  one : P.cellsOf t = s.size
  two : ∀ {H : Type} {enc : TypeId × Value → H} {w : World} {base : Nat} {spare : Nat → Bool} {held : Bool} {fuel : Nat} {cs : List Value} {x : DataW H × List MemPlace},
    DataW.trod enc P w base spare held fuel t cs = some x → ∃ d : α, s.rep w 0 w.heap.size cs d

theorem fits_I {P : Program} {t : TypeId} (h : P.underlying t = some (.int .i64)) (hc : P.cellsOf t = 1) : Fits shI P t :=
  ⟨hc, fun hx => by
    obtain ⟨n, rfl, _, hw⟩ := DataW.trod_int h hx
    refine ⟨n, rfl, ?_⟩
    simp [Lit.wf, IntKind.min, IntKind.max, IntKind.signed, IntKind.bits] at hw
    omega⟩
theorem fits_B {P : Program} {t : TypeId} (h : P.underlying t = some .bool) (hc : P.cellsOf t = 1) : Fits shB P t :=
  ⟨hc, fun hx => by obtain ⟨n, rfl, _⟩ := DataW.trod_bool h hx; exact ⟨n, rfl⟩⟩
theorem fits_S {P : Program} {t : TypeId} (h : P.underlying t = some .string) (hc : P.cellsOf t = 1) : Fits shS P t :=
  ⟨hc, fun hx => by obtain ⟨s, rfl, _, hs⟩ := DataW.trod_string h hx; exact ⟨s, rfl, hs⟩⟩

theorem cell_lt {w : World} {a : Addr} {v : Value} (h : w.cell? a = some v) : a.block < w.heap.size := by
  rcases Nat.lt_or_ge a.block w.heap.size with hlt | hge
  · exact hlt
  · unfold World.cell? at h; rw [Array.getElem?_eq_none hge] at h; cases h

theorem fits_L {α : Type} {s : Sh α} (hg : Good s) {P : Program} {t e : TypeId} (h : P.underlying t = some (.slice e)) (hc : P.cellsOf t = 1) (hf : Fits s P e) : Fits (shL s) P t := by
  refine ⟨hc, fun {H enc w base spare held fuel cs x} hx => ?_⟩
  rcases open_slice h hx with ⟨rfl, _⟩ | ⟨a, len, cap, m, n, D, Pl, rfl, _, hl, hm, hmm, hxe, hi⟩
  · exact ⟨[], none, 0, rfl, SR.nil _ _ _⟩
  · have hlm : len ≤ m := by rw [hmm]; split <;> omega
    have hE : ∀ i, i < len → ∃ cs' d, cs'.length = s.size ∧ (∀ j, j < s.size → w.cell? ((a.add (i * s.size)).add j) = cs'[j]?) ∧ s.rep w 0 w.heap.size cs' d := by
      intro i hil
      obtain ⟨cs', h1, h2⟩ := hi i (by omega)
      obtain ⟨d, hd⟩ := hf.two h2
      obtain ⟨_, hlen, hcell⟩ := World.cells?_some h1
      rw [hf.one] at hlen hcell
      exact ⟨cs', d, hlen, hcell, hd⟩
    have hx : ∃ ds : List α, ds.length = len ∧ ∀ i (hi : i < ds.length), ∃ cs', cs'.length = s.size ∧ (∀ j, j < s.size → w.cell? ((a.add (i * s.size)).add j) = cs'[j]?) ∧ s.rep w 0 w.heap.size cs' ds[i] := by
      clear hi hl hm hmm hlm hx hxe
      revert hE
      induction len with
      | zero => exact fun _ => ⟨[], rfl, fun i hi => absurd hi (by simp)⟩
      | succ k ih =>
        intro hE
        obtain ⟨ds, hd, hds⟩ := ih (fun i hi => hE i (by omega))
        obtain ⟨cs', d, h1, h2, h3⟩ := hE k (by omega)
        refine ⟨ds ++ [d], by simp [hd], fun i hi => ?_⟩
        by_cases hik : i < ds.length
        · obtain ⟨c1, e1, e2, e3⟩ := hds i hik
          exact ⟨c1, e1, e2, by rw [List.getElem_append_left hik]; exact e3⟩
        · have : i = k := by simp at hi; omega
          subst this
          exact ⟨cs', h1, h2, by rw [List.getElem_append_right (by omega)]; simpa using h3⟩
    obtain ⟨ds, hdl, hds⟩ := hx
    subst hdl
    refine ⟨ds, some a, cap, rfl, hl, hm, fun hp => ?_⟩
    obtain ⟨b, off, spot⟩ := a
    obtain ⟨cs0, hl0, hc0, _⟩ := hds 0 hp
    have h00 := hc0 0 hg.pos
    have hsome : ∃ v, cs0[0]? = some v := ⟨cs0[0]'(by rw [hl0]; exact hg.pos), List.getElem?_eq_getElem _⟩
    obtain ⟨v, hv⟩ := hsome
    rw [hv] at h00
    have hsp : spot = none := by simpa [Addr.add] using World.cell?_spot h00
    subst hsp
    have hlt : b < w.heap.size := by simpa [Addr.add] using cell_lt h00
    refine ⟨b, off, rfl, Nat.zero_le _, hlt, fun i hi => ?_⟩
    obtain ⟨cs', h1, h2, h3⟩ := hds i hi
    refine ⟨cs', ⟨h1, fun j hj => ?_⟩, h3⟩
    rw [← h2 j hj]
    congr 1
    unfold Addr.add
    by_cases e1 : i * s.size = 0 <;> by_cases e2 : j = 0 <;> simp [e1, e2, Nat.add_assoc]

structure FitsF {α : Type} (s : Sh α) (P : Program) (fs : List Field) (off : Nat) : Prop where
  out : ∀ {H : Type} {enc : TypeId × Value → H} {w : World} {base : Nat} {spare : Nat → Bool} {held : Bool} {fuel : Nat} {cs : List Value}, cs.length = off + s.size →
    (∀ f ∈ fs, ∃ x, DataW.trod enc P w base spare held fuel f.type ((cs.drop f.offset).take (P.cellsOf f.type)) = some x) → ∃ d : α, s.rep w 0 w.heap.size (cs.drop off) d

theorem fitsF_one {α : Type} {s : Sh α} {P : Program} {f : Field} {off : Nat} (hf : Fits s P f.type) (ho : f.offset = off) : FitsF s P [f] off := by
  refine ⟨fun {H enc w base spare held fuel cs} hlen hall => ?_⟩
  obtain ⟨x, hx⟩ := hall f (by simp)
  obtain ⟨d, hd⟩ := hf.two hx
  rw [ho, hf.one, List.take_of_length_le (by simp; omega)] at hd
  exact ⟨d, hd⟩
theorem fitsF_cons {α β : Type} {a : Sh α} {b : Sh β} {P : Program} {f : Field} {fs : List Field} {off : Nat} (hf : Fits a P f.type) (ho : f.offset = off) (hr : FitsF b P fs (off + a.size)) : FitsF (shP a b) P (f :: fs) off := by
  refine ⟨fun {H enc w base spare held fuel cs} hlen hall => ?_⟩
  obtain ⟨x, hx⟩ := hall f (by simp)
  obtain ⟨d, hd⟩ := hf.two hx
  rw [ho, hf.one] at hd
  obtain ⟨e, he⟩ := hr.out (by rw [hlen]; show off + (a.size + b.size) = _; omega) (fun g hg => hall g (List.mem_cons_of_mem _ hg))
  exact ⟨(d, e), hd, by rw [List.drop_drop]; exact he⟩
theorem fits_struct {α : Type} {s : Sh α} {P : Program} {t : TypeId} {fs : Array Field} (h : P.underlying t = some (.struct fs)) (hc : P.cellsOf t = s.size) (hf : FitsF s P fs.toList 0) : Fits s P t := by
  refine ⟨hc, fun {H enc w base spare held fuel cs x} hx => ?_⟩
  obtain ⟨xs, n, _, _, hlen, hxl, hall⟩ := DataW.trod_struct h hx
  have := hf.out (enc := enc) (w := w) (base := base) (spare := spare) (held := held) (fuel := n) (cs := cs) (by rw [hlen, hc, Nat.zero_add]) (fun f hfm => by
    obtain ⟨i, hi, rfl⟩ := List.getElem_of_mem hfm
    have hi' : i < fs.size := by simpa using hi
    have h1 := hall i (fs.toList[i]) (by simp [hi'])
    rw [List.getElem?_eq_getElem (by omega)] at h1
    exact ⟨_, h1⟩)
  simpa using this

/-! ### Structs -/
theorem open_P {α β : Type} {a : Sh α} {b : Sh β} {w : World} {lo hi : Nat} {cs : List Value} {x : α × β} (h : (shP a b).rep w lo hi cs x) :
    ∃ c1 c2, cs = c1 ++ c2 ∧ a.rep w lo hi c1 x.1 ∧ b.rep w lo hi c2 x.2 := ⟨_, _, (List.take_append_drop _ _).symm, h.1, h.2⟩
theorem mk_P {α β : Type} {a : Sh α} {b : Sh β} (ha : Good a) {w : World} {lo hi : Nat} {c1 c2 : List Value} {x : α × β} (h1 : a.rep w lo hi c1 x.1) (h2 : b.rep w lo hi c2 x.2) : (shP a b).rep w lo hi (c1 ++ c2) x := by
  have := ha.len h1
  exact ⟨by rw [List.take_left' this]; exact h1, by rw [List.drop_left' this]; exact h2⟩
theorem openO_P {α β : Type} {a : Sh α} {b : Sh β} {w : World} {lo hi : Nat} {cs : List Value} {x : α × β} {bl : List Nat} (h : (shP a b).own w lo hi cs x bl) :
    ∃ c1 c2 b1 b2, cs = c1 ++ c2 ∧ bl = b1 ++ b2 ∧ a.own w lo hi c1 x.1 b1 ∧ b.own w lo hi c2 x.2 b2 := by
  obtain ⟨b1, b2, e, h1, h2⟩ := h
  exact ⟨_, _, b1, b2, (List.take_append_drop _ _).symm, e, h1, h2⟩
theorem mkO_P {α β : Type} {a : Sh α} {b : Sh β} (ha : Good a) {w : World} {lo hi : Nat} {c1 c2 : List Value} {x : α × β} {b1 b2 : List Nat} (h1 : a.own w lo hi c1 x.1 b1) (h2 : b.own w lo hi c2 x.2 b2) : (shP a b).own w lo hi (c1 ++ c2) x (b1 ++ b2) := by
  have := ha.len (ha.own_rep h1)
  exact ⟨b1, b2, rfl, by rw [List.take_left' this]; exact h1, by rw [List.drop_left' this]; exact h2⟩

abbrev I64 (n : Int) : Prop := -9223372036854775808 ≤ n ∧ n ≤ 9223372036854775807

/-- A struct argument by value. -/
def AV {α : Type} (s : Sh α) (w : World) (v : Value) (d : α) : Prop := ∃ cs, v = .agg cs.toArray ∧ s.rep w 0 w.heap.size cs d
theorem rep_up {α : Type} {s : Sh α} (hg : Good s) {w w' : World} {cs : List Value} {d : α} (h : s.rep w 0 w.heap.size cs d) (k : Up w w') : s.rep w' 0 w'.heap.size cs d :=
  hg.wide (hg.keep h (k.keeps (Nat.le_refl _))) (Nat.le_refl _) k.size
theorem AV.up {α : Type} {s : Sh α} (hg : Good s) {w w' : World} {v : Value} {d : α} (h : AV s w v d) (k : Up w w') : AV s w' v d := by
  obtain ⟨cs, e, h⟩ := h
  exact ⟨cs, e, rep_up hg h k⟩

/-! ### Sums over the beginning of a list -/
def psum {α : Type} (f : α → Nat) (xs : List α) (k : Nat) : Nat := ((xs.take k).map f).sum
theorem psum_zero {α : Type} (f : α → Nat) (xs : List α) : psum f xs 0 = 0 := by simp [psum]
theorem psum_succ {α : Type} (f : α → Nat) (xs : List α) (k : Nat) (h : k < xs.length) : psum f xs (k + 1) = psum f xs k + f xs[k] := by
  unfold psum
  rw [List.take_succ_eq_append_getElem h, List.map_append, List.sum_append]
  simp
theorem psum_all {α : Type} (f : α → Nat) (xs : List α) : psum f xs xs.length = (xs.map f).sum := by simp [psum]
theorem psum_le {α : Type} (f : α → Nat) (xs : List α) (k : Nat) : psum f xs k ≤ (xs.map f).sum := by
  have : (xs.map f).sum = psum f xs k + ((xs.drop k).map f).sum := by
    unfold psum
    rw [← List.sum_append, ← List.map_append, List.take_append_drop]
  omega
def szR (left : Int) (T : Nat) : Int := if (T : Int) ≤ left then left - T else -1
theorem szR_yes {left : Int} {T : Nat} (h : (T : Int) ≤ left) : szR left T = left - T := if_pos h
theorem szR_no {left : Int} {T : Nat} (h : left < T) : szR left T = -1 := if_neg (by omega)
def SzP (left : Int) (T : Nat) (w : World) (e : Ending) (w' : World) : Prop := e = .returned (.int .i64 (szR left T)) ∧ Up w w'
theorem SzP.yes {left : Int} {T : Nat} {w w' : World} {n : Int} (h : (T : Int) ≤ left) (hn : n = left - T) (u : Up w w') : SzP left T w (.returned (.int .i64 n)) w' := ⟨by rw [szR_yes h, hn], u⟩
theorem SzP.no {left : Int} {T : Nat} {w w' : World} (h : left < T) (u : Up w w') : SzP left T w (.returned (.int .i64 (-1))) w' := ⟨by rw [szR_no h], u⟩

/-! ### Equality -/
def EqP (p : Prop) (w : World) (e : Ending) (w' : World) : Prop := ∃ b : Bool, e = .returned (.bool b) ∧ (b = true ↔ p) ∧ Up w w'
theorem EqP.t {p : Prop} {w w' : World} (h : p) (u : Up w w') : EqP p w (.returned (.bool true)) w' := ⟨true, rfl, by simp [h], u⟩
theorem EqP.f {p : Prop} {w w' : World} (h : ¬ p) (u : Up w w') : EqP p w (.returned (.bool false)) w' := ⟨false, rfl, by simp [h], u⟩
theorem eqb_cases {b : Bool} {p : Prop} (h : b = true ↔ p) : (b = false ∧ ¬ p) ∨ (b = true ∧ p) := by
  cases b
  · exact .inl ⟨rfl, fun hp => absurd (h.2 hp) (by simp)⟩
  · exact .inr ⟨rfl, h.1 rfl⟩
theorem str_beq (a b : ByteArray) : (a.toList == b.toList) = decide (a = b) := by
  by_cases h : a = b
  · subst h; simp
  · have : ¬ a.toList = b.toList := fun e => h (by
      have ha : a = ⟨a.toList.toArray⟩ := by rw [ByteArray.toList_eq]
      have hb : b = ⟨b.toList.toArray⟩ := by rw [ByteArray.toList_eq]
      rw [ha, hb, e])
    simp [h, this]
theorem take_snoc_eq {α : Type} {xs ys : List α} {k : Nat} (h : xs.take k = ys.take k) (h1 : k < xs.length) (h2 : k < ys.length) (e : xs[k] = ys[k]) : xs.take (k + 1) = ys.take (k + 1) := by
  rw [List.take_succ_eq_append_getElem h1, List.take_succ_eq_append_getElem h2, h, e]
theorem take_all_eq {α : Type} {xs ys : List α} {k : Nat} (h : xs.take k = ys.take k) (h1 : xs.length ≤ k) (h2 : ys.length ≤ k) : xs = ys := by
  rwa [List.take_of_length_le h1, List.take_of_length_le h2] at h
theorem ne_of_at {α : Type} {xs ys : List α} {k : Nat} (h1 : k < xs.length) (h2 : k < ys.length) (e : xs[k] ≠ ys[k]) : xs ≠ ys := fun h => by subst h; exact e rfl
theorem ne_of_len {α : Type} {xs ys : List α} (h : xs.length ≠ ys.length) : xs ≠ ys := fun e => h (by rw [e])
end Go.Proofs.YtanjmolgpkffoaaGreatDoor

namespace Go.Proofs.YtanjmolgpkffoaaGreatDoor
open Go.RowKit

def inB (n lo hi : Int) : Bool := decide (lo ≤ n) && decide (n ≤ hi)
theorem inB_t {n lo hi : Int} : inB n lo hi = true ↔ lo ≤ n ∧ n ≤ hi := by simp [inB]
theorem within_any (n lo hi : Int) (w : World) :
    Calls Tryz.prog 67 #[.int .i64 n, .int .i64 lo, .int .i64 hi] w fun e w' => e = .returned (.bool (inB n lo hi)) ∧ w = w' := by
  unfold inB
  by_cases h1 : lo ≤ n
  · go_enter Tryz.func67, Tryz.ntmps67
    go_wp2
    go_ret
    exact ⟨by simp [h1], rfl⟩
  · have h2 : decide (lo ≤ n) = false := by simpa using h1
    go_enter Tryz.func67, Tryz.ntmps67
    go_wp2
    go_ret
    exact ⟨by simp, rfl⟩


theorem in_any (n lo hi : Int) (w : World) :
    Calls Tryz.prog 66 #[.int .i64 n, .int .i64 lo, .int .i64 hi] w fun e w' => e = .returned (.bool (inB n lo hi)) ∧ w = w' := by
  unfold inB
  by_cases h1 : lo ≤ n
  · go_enter Tryz.func66, Tryz.ntmps66
    go_wp2
    go_ret
    exact ⟨by simp [h1], rfl⟩
  · have h2 : decide (lo ≤ n) = false := by simpa using h1
    go_enter Tryz.func66, Tryz.ntmps66
    go_wp2
    go_ret
    exact ⟨by simp, rfl⟩
end Go.Proofs.YtanjmolgpkffoaaGreatDoor

namespace Go.Proofs.YtanjmolgpkffoaaGreatDoor
open Go.RowKit

def Bk (w : World) (g : Nat) (t : TypeId) (C : Array Value) : Prop := w.heap[g]? = some (.cells C t (0, 0))
section
variable {w w' : World} {g : Nat} {t : TypeId} {C : Array Value}
theorem Bk.lt (h : Bk w g t C) : g < w.heap.size := by
  rcases Nat.lt_or_ge g w.heap.size with hlt | hge
  · exact hlt
  · unfold Bk at h; rw [Array.getElem?_eq_none hge] at h; cases h
theorem Bk.cell (h : Bk w g t C) (i : Nat) : w.cell? ⟨g, i, none⟩ = C[i]? := by unfold Bk at h; simp [World.cell?, h]
theorem Bk.frozen (h : Bk w g t C) (i : Nat) : w.frozen? ⟨g, i, none⟩ = false := by unfold Bk at h; simp [World.frozen?, h]
theorem Bk.new (w : World) (t : TypeId) (C : Array Value) : Bk (w.alloc (.cells C t)) w.heap.size t C := heap_alloc_new w _
theorem Bk.drewN (h : Bk w g t C) (n : Nat) : Bk (w.drewN n) g t C := h
theorem Bk.drew (h : Bk w g t C) : Bk w.drew g t C := h
theorem Bk.alloc (h : Bk w g t C) (o : Obj) : Bk (w.alloc o) g t C := (Below.heap_alloc w o g h.lt).trans h
theorem Bk.up (h : Bk w g t C) (u : Up w w') : Bk w' g t C := (u.block g h.lt).trans h
theorem Bk.set (h : Bk w g t C) (i : Nat) (u : Value) : Bk (w.setCell ⟨g, i, none⟩ u) g t (C.setIfInBounds i u) := by
  unfold Bk at h ⊢
  simp [World.setCell, Array.getElem?_modify, h]
theorem Bk.far (h : Bk w g t C) {p : Addr} (hp : g ≠ p.block) (u : Value) : Bk (w.setCell p u) g t C := (Below.heap_setCell w p u g hp).trans h
end

/-- Two worlds that differ in block g alone (and in new blocks). -/
structure But (g : Nat) (w w' : World) : Prop where
  os : w'.os = w.os
  tape : w'.tape = w.tape
  output : w'.output = w.output
  size : w'.heap.size = w.heap.size
  block : ∀ k, k ≠ g → w'.heap[k]? = w.heap[k]?
theorem But.set (w : World) (g i : Nat) (u : Value) : But g w (w.setCell ⟨g, i, none⟩ u) :=
  ⟨rfl, rfl, rfl, by simp [World.setCell], fun k hk => Below.heap_setCell _ _ _ _ hk⟩
theorem But.refl (g : Nat) (w : World) : But g w w := ⟨rfl, rfl, rfl, rfl, fun _ _ => rfl⟩
theorem But.trans {g : Nat} {a b c : World} (h : But g a b) (k : But g b c) : But g a c :=
  ⟨k.os.trans h.os, k.tape.trans h.tape, k.output.trans h.output, k.size.trans h.size, fun i hi => (k.block i hi).trans (h.block i hi)⟩
theorem Up.but {a w w' : World} {g : Nat} (h : Up a w) (k : But g w w') (hg : a.heap.size ≤ g) : Up a w' :=
  ⟨k.os.trans h.os, k.tape.trans h.tape, k.output.trans h.output, by rw [k.size]; exact h.size, fun i hi => (k.block i (by omega)).trans (h.block i hi)⟩

/-- The cells 'cs' written into C from place p on. -/
def putCells (C : Array Value) (p : Nat) : List Value → Array Value
  | [] => C
  | c :: cs => putCells (C.setIfInBounds p c) (p + 1) cs
theorem putCells_size (cs : List Value) : ∀ (C : Array Value) (p : Nat), (putCells C p cs).size = C.size := by
  induction cs with
  | nil => intro C p; rfl
  | cons c cs ih => intro C p; unfold putCells; rw [ih]; simp
theorem putCells_far (cs : List Value) : ∀ (C : Array Value) (p q : Nat), (q < p ∨ p + cs.length ≤ q) → (putCells C p cs)[q]? = C[q]? := by
  induction cs with
  | nil => intro C p q _; rfl
  | cons c cs ih =>
    intro C p q h
    unfold putCells
    rw [ih _ _ _ (by simp at h; omega), Array.getElem?_setIfInBounds_ne (by simp at h; omega)]
theorem putCells_at (cs : List Value) : ∀ (C : Array Value) (p j : Nat), p + cs.length ≤ C.size → j < cs.length → (putCells C p cs)[p + j]? = cs[j]? := by
  induction cs with
  | nil => intro C p j _ h; simp at h
  | cons c cs ih =>
    intro C p j h hj
    unfold putCells
    cases j with
    | zero =>
      rw [putCells_far _ _ _ _ (by omega)]
      simp at h
      simp [Array.getElem?_setIfInBounds]
      omega
    | succ j =>
      have h1 := ih (C.setIfInBounds p c) (p + 1) j (by simp at h ⊢; omega) (by simp at hj; omega)
      rw [show p + (j + 1) = p + 1 + j by omega, h1]
      simp

/-- A row in the making: k elements of xs stand in block g. -/
def Bld {α : Type} (s : Sh α) (lo : Nat) (w : World) (g : Nat) (t : TypeId) (C : Array Value) (n : Nat) (xs : List α) (k : Nat) : Prop :=
  Bk w g t C ∧ C.size = n * s.size ∧ lo ≤ g ∧ ∃ bls : List (List Nat), bls.length = k ∧ (g :: bls.flatten).Nodup ∧ (∀ b ∈ bls.flatten, lo ≤ b ∧ b < w.heap.size) ∧
    ∀ i, i < k → ∃ cs b x, bls[i]? = some b ∧ xs[i]? = some x ∧ cs.length = s.size ∧ (∀ j, j < s.size → C[i * s.size + j]? = cs[j]?) ∧ s.own w lo w.heap.size cs x b

section
variable {α : Type} {s : Sh α} {lo : Nat} {w w' : World} {g : Nat} {t : TypeId} {C : Array Value} {n : Nat} {xs : List α} {k : Nat}
theorem Bld.start (hlo : lo ≤ g) (h : Bk w g t C) (hC : C.size = n * s.size) : Bld s lo w g t C n xs 0 :=
  ⟨h, hC, hlo, [], rfl, by simp, by simp, fun i h => absurd h (by omega)⟩
theorem Bld.up (hg : Good s) (h : Bld s lo w g t C n xs k) (u : Up w w') : Bld s lo w' g t C n xs k := by
  obtain ⟨h1, h2, h3, bls, h4, h5, h6, h7⟩ := h
  refine ⟨h1.up u, h2, h3, bls, h4, h5, fun b hb => ⟨(h6 b hb).1, Nat.lt_of_lt_of_le (h6 b hb).2 u.size⟩, fun i hi => ?_⟩
  obtain ⟨cs, b, x, e1, e2, e3, e4, e5⟩ := h7 i hi
  exact ⟨cs, b, x, e1, e2, e3, e4, hg.own_wide (hg.own_keep e5 (fun c hc => u.block c (hg.own_in e5 c hc).2)) (Nat.le_refl _) u.size⟩
/-- The element k is put into its place: its own blocks are younger than the world 'w0' in which the row stood. -/
theorem Bld.push (hg : Good s) {w0 : World} (h0 : Bld s lo w0 g t C n xs k) (u : Up w0 w) {cs : List Value} {x : α} {b : List Nat} (ho : s.own w w0.heap.size w.heap.size cs x b) (hb : b.Nodup) (hx : xs[k]? = some x) (hk : k < n)
    (hw : But g w w') (hbk : Bk w' g t (putCells C (k * s.size) cs)) : Bld s lo w' g t (putCells C (k * s.size) cs) n xs (k + 1) := by
  have h := h0.up hg u
  obtain ⟨h1, h2, h3, bls, h4, h5, h6, h7⟩ := h
  obtain ⟨g1, _, _, bls0, g4, g5, g6, g7⟩ := h0
  have hlen := hg.len (hg.own_rep ho)
  have hglt : g < w0.heap.size := g1.lt
  have hmem : ∀ c ∈ bls.flatten, c ≠ g := by
    intro c hc e
    subst e
    simp at h5
    obtain ⟨l, hl, hcl⟩ := List.mem_flatten.1 hc
    exact h5.1 l hl hcl
  have hin := hg.own_in ho
  have hmul : (k + 1) * s.size ≤ n * s.size := Nat.mul_le_mul_right _ hk
  have hmul' : k * s.size + s.size ≤ n * s.size := by rw [Nat.succ_mul] at hmul; exact hmul
  -- the blocks of the elder elements lie below w0
  have hold : ∀ c ∈ bls0.flatten, c < w0.heap.size := fun c hc => (g6 c hc).2
  refine ⟨hbk, by rw [putCells_size]; exact h2, h3, bls0 ++ [b], by simp [g4], ?_, ?_, ?_⟩
  · have g5' := g5
    simp only [List.flatten_append, List.flatten_cons, List.flatten_nil, List.append_nil]
    rw [← List.cons_append, List.nodup_append]
    refine ⟨g5, hb, fun a ha c hc e => ?_⟩
    subst e
    have hc' := (hin a hc).1
    rcases List.mem_cons.1 ha with rfl | ha
    · omega
    · have := hold a ha; omega
  · intro c hc
    simp only [List.flatten_append, List.flatten_cons, List.flatten_nil, List.append_nil, List.mem_append] at hc
    rw [hw.size]
    rcases hc with hc | hc
    · have := hold c hc; exact ⟨(g6 c hc).1, Nat.lt_of_lt_of_le this u.size⟩
    · have := hin c hc; omega
  · intro i hi
    by_cases hik : i < k
    · obtain ⟨cs', b', x', e1, e2, e3, e4, e5⟩ := g7 i hik
      refine ⟨cs', b', x', by rw [List.getElem?_append_left (by omega)]; exact e1, e2, e3, fun j hj => ?_, ?_⟩
      · have : (i + 1) * s.size ≤ k * s.size := Nat.mul_le_mul_right _ hik
        rw [Nat.succ_mul] at this
        rw [putCells_far _ _ _ _ (by omega)]
        exact e4 j hj
      · have hbm : ∀ c ∈ b', c ∈ bls0.flatten := fun c hc => List.mem_flatten.2 ⟨b', List.mem_of_getElem? e1, hc⟩
        have e6 := hg.own_keep (w' := w) e5 (fun c hc => u.block c (hold c (hbm c hc)))
        have e7 := hg.own_keep (w' := w') e6 (fun c hc => hw.block c (fun e => by
          subst e
          simp at g5
          obtain ⟨l, hl, hcl⟩ := List.mem_flatten.1 (hbm c hc)
          exact g5.1 l hl hcl))
        exact hg.own_wide e7 (Nat.le_refl _) (by rw [hw.size]; exact u.size)
    · obtain rfl : i = k := by omega
      refine ⟨cs, b, x, by rw [List.getElem?_append_right (by omega)]; simp [g4], hx, hlen, fun j hj => ?_, ?_⟩
      · exact putCells_at cs C _ j (by rw [hlen, h2]; exact hmul') (by rw [hlen]; exact hj)
      · have e7 := hg.own_keep (w' := w') ho (fun c hc => hw.block c (fun e => by
          subst e
          have := (hin c hc).1
          omega))
        exact hg.own_wide e7 (by omega) (by rw [hw.size]; exact Nat.le_refl _)
theorem Bld.done {c : Nat} (h : Bld s lo w g t C n xs k) (hk : k = xs.length) (h1 : xs.length ≤ c) (h2 : c ≤ maxLen) (h3 : c ≤ n) : ∃ bl, SO s w lo w.heap.size (some ⟨g, 0, none⟩) c xs bl ∧ bl.Nodup := by
  subst hk
  obtain ⟨g1, gn, g3, bls, g4, g5, g6, g7⟩ := h
  refine ⟨g :: bls.flatten, ⟨h1, h2, .inr ⟨g, 0, C, t, bls, rfl, g3, g1.lt, g1, by rw [gn, Nat.zero_add]; exact Nat.mul_le_mul_right _ h3, rfl, g4, fun i hi => ?_⟩⟩, g5⟩
  obtain ⟨cs, b, x, e1, e2, e3, e4, e5⟩ := g7 i hi
  rw [List.getElem?_eq_getElem hi] at e2
  injection e2 with e2
  subst e2
  exact ⟨cs, b, e1, e3, fun j hj => by rw [Nat.zero_add]; exact e4 j hj, e5⟩
end

/-! ### What a call hands back in new memory -/
def ToL {α : Type} (s : Sh α) (xs : List α) (w : World) (e : Ending) (w' : World) : Prop :=
  ∃ A c bl, e = .returned (.slice A xs.length c) ∧ SO s w' w.heap.size w'.heap.size A c xs bl ∧ bl.Nodup ∧ Up w w'
def ToV {α : Type} (s : Sh α) (x : α) (w : World) (e : Ending) (w' : World) : Prop :=
  ∃ cs bl, e = .returned (.agg cs.toArray) ∧ s.own w' w.heap.size w'.heap.size cs x bl ∧ bl.Nodup ∧ Up w w'

theorem run_make_rows {P : Program} (t e : TypeId) (i : TypeInfo) (z : Value) (ht : P.underlying t = some (.slice e)) (hi : P.info? e = some i) (hz : i.zero = some z)
    (n : Nat) (hbytes : i.bytes * n ≤ 281474976710656) (h63 : n ≤ 9223372036854775807) (w : World) :
    (Instr.makeSlice t (.int .i64 (n : Int)) (.int .i64 (n : Int))).run P w = .ok (.slice (some ⟨w.heap.size, 0, none⟩) n n) (w.alloc (.cells (madeCells z.cells (n * i.size)) e)) := by
  have hb : (i.bytes : Int) * (n : Int) ≤ 281474976710656 := by
    have h : ((i.bytes * n : Nat) : Int) ≤ 281474976710656 := by omega
    rwa [Int.natCast_mul] at h
  have hr := run_make (P := P) w t e i z ht hi hz .i64 .i64 n n (by omega) (by omega) hb (by omega)
  simp only [Int.toNat_natCast] at hr
  exact hr

def setCells (w : World) (g p : Nat) : List Value → World
  | [] => w
  | c :: cs => setCells (w.setCell ⟨g, p, none⟩ c) g (p + 1) cs
theorem Bk.sets {g : Nat} {t : TypeId} (cs : List Value) : ∀ {w : World} {C : Array Value} (_ : Bk w g t C) (p : Nat), Bk (setCells w g p cs) g t (putCells C p cs) := by
  induction cs with
  | nil => intro w C h p; exact h
  | cons c cs ih => intro w C h p; exact ih (h.set p c) (p + 1)
theorem But.sets {g : Nat} (cs : List Value) : ∀ (w : World) (p : Nat), But g w (setCells w g p cs) := by
  induction cs with
  | nil => intro w p; exact But.refl _ _
  | cons c cs ih => intro w p; exact (But.set w g p c).trans (ih _ _)
theorem Up.sets {a w : World} {g : Nat} (h : Up a w) (hg : a.heap.size ≤ g) (p : Nat) (cs : List Value) : Up a (setCells w g p cs) := h.but (But.sets cs w p) hg
theorem SO.up {α : Type} {s : Sh α} (hg : Good s) {w w' : World} {lo : Nat} {A : Option Addr} {c : Nat} {xs : List α} {bl : List Nat} (h : SO s w lo w.heap.size A c xs bl) (u : Up w w') : SO s w' lo w'.heap.size A c xs bl :=
  (h.keep hg (fun b hb => u.block b (h.in_ hg b hb).2)).wide hg (Nat.le_refl _) u.size
theorem SO.set {α : Type} {s : Sh α} (hg : Good s) {w : World} {lo : Nat} {A : Option Addr} {c : Nat} {xs : List α} {bl : List Nat} (h : SO s w lo w.heap.size A c xs bl) (g p : Nat) (cs : List Value) (hlt : g < lo) :
    SO s (setCells w g p cs) lo (setCells w g p cs).heap.size A c xs bl := by
  have hb := But.sets (g := g) cs w p
  rw [hb.size]
  exact h.keep hg (fun b hb' => hb.block b (by have := (h.in_ hg b hb').1; omega))
theorem own_up {α : Type} {s : Sh α} (hg : Good s) {w w' : World} {lo : Nat} {cs : List Value} {x : α} {bl : List Nat} (h : s.own w lo w.heap.size cs x bl) (u : Up w w') : s.own w' lo w'.heap.size cs x bl :=
  hg.own_wide (hg.own_keep h (fun b hb => u.block b (hg.own_in h b hb).2)) (Nat.le_refl _) u.size
theorem own_set {α : Type} {s : Sh α} (hg : Good s) {w : World} {lo : Nat} {ds : List Value} {x : α} {bl : List Nat} (h : s.own w lo w.heap.size ds x bl) (g p : Nat) (cs : List Value) (hlt : g < lo) :
    s.own (setCells w g p cs) lo (setCells w g p cs).heap.size ds x bl := by
  have hb := But.sets (g := g) cs w p
  rw [hb.size]
  exact hg.own_keep h (fun b hb' => hb.block b (by have := (hg.own_in h b hb').1; omega))
/-- Blocks that lie in ranges one above the other are unlike. -/
theorem nodup_two {a b : List Nat} {m : Nat} (ha : a.Nodup) (hb : b.Nodup) (h1 : ∀ x ∈ a, x < m) (h2 : ∀ x ∈ b, m ≤ x) : (a ++ b).Nodup := by
  rw [List.nodup_append]
  exact ⟨ha, hb, fun x hx y hy e => by subst e; have := h1 x hx; have := h2 x hy; omega⟩
theorem mem_lt_two {a b : List Nat} {m : Nat} (h1 : ∀ x ∈ a, x < m) (h2 : ∀ x ∈ b, x < m) : ∀ x ∈ a ++ b, x < m := fun x hx => by
  rcases List.mem_append.1 hx with h | h
  · exact h1 x h
  · exact h2 x h
theorem setCells_size (w : World) (g p : Nat) (cs : List Value) : (setCells w g p cs).heap.size = w.heap.size := (But.sets cs w p).size
theorem sz_le {α : Type} (s : Sh α) (xs : List α) {k N : Nat} (h : k < xs.length) (hn : (shL s).sz xs ≤ N) : s.sz xs[k] ≤ N := by
  have h1 := psum_le s.sz xs (k + 1)
  rw [psum_succ s.sz xs k h] at h1
  have h2 : (shL s).sz xs = xs.length + (xs.map s.sz).sum := rfl
  omega
theorem AV.of_own {α : Type} {s : Sh α} (hg : Good s) {w : World} {lo : Nat} {cs : List Value} {x : α} {bl : List Nat} (h : s.own w lo w.heap.size cs x bl) : AV s w (.agg cs.toArray) x :=
  ⟨cs, rfl, hg.wide (hg.own_rep h) (Nat.zero_le _) (Nat.le_refl _)⟩
theorem SR.of_own {α : Type} {s : Sh α} (hg : Good s) {w : World} {lo : Nat} {A : Option Addr} {c : Nat} {xs : List α} {bl : List Nat} (h : SO s w lo w.heap.size A c xs bl) : SRW s w A c xs :=
  (h.rep hg).wide hg (Nat.zero_le _) (Nat.le_refl _)
/-- A call that gives a known value and at most new memory. -/
def RetV (v : Value) (w : World) (e : Ending) (w' : World) : Prop := e = .returned v ∧ Up w w'

/-! ### A region that draws its order, whose operations read, or call what gives one value and lays at most new memory -/
structure UpT (w : World) where
  val : World
  up : Up w val
instance (w : World) : Nonempty (UpT w) := ⟨⟨w, Up.refl w⟩⟩
theorem wp_region_up {P : Program} {id : Nat} {Q : Exit → Act → World → Prop} {a : Act} {w : World} {l : List Oper} (hm : P.follows .mixedOrders = true) (hB : Region.lexB .any l.toArray = true)
    (h : wpQuiet P l.toArray (fun W => ∃ t : UpT w, W = t.val) (fun a' => ∀ w', (∃ t : UpT w, w' = t.val) → Q .normal a' w') l a) : (Code.region id l.toArray true).wp P Q a w :=
  wp_region_quiet (C := fun W => ∃ t : UpT w, W = t.val) hm hB ⟨⟨_, (Up.refl w).drew⟩, rfl⟩ (by simpa using h)
theorem up_call {P : Program} {f : FuncId} {args : Array Value} {w W : World} {v : Value} (h : Calls P f args W (RetV v W)) (hW : Up w W) :
    Calls P f args W fun e w'' => e = .returned v ∧ ∃ t : UpT w, w'' = t.val :=
  h.mono fun _ w' ⟨he, hu⟩ => ⟨he, ⟨w', hW.trans hu⟩, rfl⟩
theorem cell_up {w : World} (t : UpT w) {a : Addr} {v : Value} (h : w.cell? a = some v) : t.val.cell? a = some v := (t.up.cell (cell_lt h)).trans h
end Go.Proofs.YtanjmolgpkffoaaGreatDoor

namespace Go.Proofs.YtanjmolgpkffoaaGreatDoor
open Go.RowKit
set_option linter.unusedVariables false
set_option linter.unusedSimpArgs false

/-- Elements that hold no memory of their own. -/
structure Flat {α : Type} (s : Sh α) : Prop where
  own : ∀ {w lo hi cs x}, s.rep w lo hi cs x → ∀ w' lo' hi', s.own w' lo' hi' cs x []
section
variable {P : Program} {α : Type} {s : Sh α} {w : World}
/-- The cells of a row, one after the other. -/
theorem row_cells (hg : Good s) {g off : Nat} {lo hi : Nat} {xs : List α} (h : ∀ i (h : i < xs.length), ∃ cs, ElemAt w g off s.size i cs ∧ s.rep w lo hi cs xs[i]) :
    ∃ news : List Value, news.length = xs.length * s.size ∧ (∀ j u, news[j]? = some u → w.cell? ((⟨g, off, none⟩ : Addr).add j) = some u) ∧
      ∀ i (h : i < xs.length), ∃ cs, cs.length = s.size ∧ (∀ j, j < s.size → news[i * s.size + j]? = cs[j]?) ∧ s.rep w lo hi cs xs[i] := by
  have hadd : ∀ j, (⟨g, off, none⟩ : Addr).add j = ⟨g, off + j, none⟩ := fun j => by unfold Addr.add; split <;> simp_all
  have hp := hg.pos
  have key : ∀ k, k < xs.length * s.size → ∃ u, w.cell? ⟨g, off + k, none⟩ = some u := by
    intro k hk
    have hi : k / s.size < xs.length := (Nat.div_lt_iff_lt_mul hp).2 hk
    obtain ⟨cs, hc, hr⟩ := h _ hi
    have hj : k % s.size < s.size := Nat.mod_lt _ hp
    have := hc.2 _ hj
    rw [Nat.mul_comm, Nat.div_add_mod] at this
    rw [this, List.getElem?_eq_getElem (by rw [hc.1]; exact hj)]
    exact ⟨_, rfl⟩
  refine ⟨(List.range (xs.length * s.size)).map (fun k => (w.cell? ⟨g, off + k, none⟩).getD (.bool false)), by simp, fun j u hu => ?_, fun i hi => ?_⟩
  · rw [List.getElem?_map] at hu
    by_cases hj : j < xs.length * s.size
    · rw [List.getElem?_range hj] at hu
      obtain ⟨v, hv⟩ := key j hj
      rw [hadd, hv]
      simpa [hv] using hu
    · rw [List.getElem?_eq_none (by simp; omega)] at hu
      cases hu
  · obtain ⟨cs, hc, hr⟩ := h i hi
    refine ⟨cs, hc.1, fun j hj => ?_, hr⟩
    have hlt : i * s.size + j < xs.length * s.size := by
      have := Nat.mul_le_mul_right s.size (Nat.succ_le_of_lt hi)
      rw [Nat.succ_mul] at this
      omega
    rw [List.getElem?_map, List.getElem?_range hlt]
    have := hc.2 j hj
    rw [List.getElem?_eq_getElem (by rw [hc.1]; exact hj)] at this ⊢
    simp [this]

end
end Go.Proofs.YtanjmolgpkffoaaGreatDoor

namespace Go.Proofs.YtanjmolgpkffoaaGreatDoor
open Go.RowKit
set_option linter.unusedVariables false

/-- At most the blocks of bl, and new ones, have turned. -/
structure Only (bl : List Nat) (w w' : World) : Prop where
  os : w'.os = w.os
  tape : w'.tape = w.tape
  output : w'.output = w.output
  size : w.heap.size ≤ w'.heap.size
  block : ∀ k, k < w.heap.size → k ∉ bl → w'.heap[k]? = w.heap[k]?
theorem Only.refl (bl : List Nat) (w : World) : Only bl w w := ⟨rfl, rfl, rfl, Nat.le_refl _, fun _ _ _ => rfl⟩
theorem Only.trans {bl : List Nat} {a b c : World} (h : Only bl a b) (k : Only bl b c) : Only bl a c :=
  ⟨k.os.trans h.os, k.tape.trans h.tape, k.output.trans h.output, Nat.le_trans h.size k.size, fun i hi hn => (k.block i (Nat.lt_of_lt_of_le hi h.size) hn).trans (h.block i hi hn)⟩
theorem Only.up {bl : List Nat} {a b c : World} (h : Only bl a b) (k : Up b c) : Only bl a c :=
  ⟨k.os.trans h.os, k.tape.trans h.tape, k.output.trans h.output, Nat.le_trans h.size k.size, fun i hi hn => (k.block i (Nat.lt_of_lt_of_le hi h.size)).trans (h.block i hi hn)⟩
theorem Only.but {bl : List Nat} {a b c : World} {g : Nat} (h : Only bl a b) (k : But g b c) (hg : g ∈ bl) : Only bl a c :=
  ⟨k.os.trans h.os, k.tape.trans h.tape, k.output.trans h.output, by rw [k.size]; exact h.size, fun i hi hn => (k.block i (fun e => hn (e ▸ hg))).trans (h.block i hi hn)⟩
theorem Only.mono {bl bl' : List Nat} {a b : World} (h : Only bl a b) (hs : ∀ x ∈ bl, x ∈ bl') : Only bl' a b := ⟨h.os, h.tape, h.output, h.size, fun k hk hn => h.block k hk (fun hm => hn (hs k hm))⟩
/-- Blocks that were there when the call began are as they were, where the marked blocks are all younger. -/
theorem Up.only {w a b : World} {bl : List Nat} (h : Up w a) (k : Only bl a b) (hb : ∀ x ∈ bl, w.heap.size ≤ x) : Up w b :=
  ⟨k.os.trans h.os, k.tape.trans h.tape, k.output.trans h.output, Nat.le_trans h.size k.size, fun i hi => (k.block i (Nat.lt_of_lt_of_le hi h.size) (fun hm => by have := hb i hm; omega)).trans (h.block i hi)⟩
theorem Bk.only {w w' : World} {g : Nat} {t : TypeId} {C : Array Value} {bl : List Nat} (h : Bk w g t C) (k : Only bl w w') (hg : g ∉ bl) : Bk w' g t C := (k.block g h.lt hg).trans h

/-- How marks count and what they leave: 'cnt' numbers are used, 'mark x k' is x marked from k on. -/
structure Mk (α : Type) where
  cnt : α → Nat
  mark : α → Int → α
def markL {α : Type} (m : Mk α) : List α → Int → List α
  | [], _ => []
  | x :: xs, k => m.mark x k :: markL m xs (k + m.cnt x)
def mkL {α : Type} (m : Mk α) : Mk (List α) := ⟨fun xs => (xs.map m.cnt).sum, fun xs k => markL m xs k⟩
section
variable {α : Type} (m : Mk α)
end

/-- What a helper that marks a slice gives. -/
def MarkL {α : Type} (s : Sh α) (m : Mk α) (lo hi : Nat) (A : Option Addr) (c : Nat) (xs : List α) (k : Int) (bl : List Nat) (w : World) (e : Ending) (w' : World) : Prop :=
  e = .returned (.int .i64 (k + ((mkL m).cnt xs : Nat))) ∧ SO s w' lo hi A c (markL m xs k) bl ∧ Only bl w w'
/-- What a helper that looks for marks gives, where they stand. -/
def HeldP (n : Int) (w : World) (e : Ending) (w' : World) : Prop := e = .returned (.int .i64 n) ∧ Up w w'
theorem MarkL.mk {α : Type} {s : Sh α} {m : Mk α} {lo hi : Nat} {A : Option Addr} {c : Nat} {xs : List α} {k n : Int} {bl : List Nat} {w w' : World} (h : Hid (n = k + ((mkL m).cnt xs : Nat))) (hs : SO s w' lo hi A c (markL m xs k) bl) (ho : Only bl w w') : MarkL s m lo hi A c xs k bl w (.returned (.int .i64 n)) w' := ⟨by rw [h.out], hs, ho⟩
theorem HeldP.mk {n k : Int} {w w' : World} (h : Hid (n = k)) (u : Up w w') : HeldP k w (.returned (.int .i64 n)) w' := ⟨by rw [h.out], u⟩
/-- What a helper that marks a struct handed over by value gives. -/
def MarkV {α : Type} (s : Sh α) (m : Mk α) (lo hi : Nat) (cs : List Value) (x : α) (k : Int) (bl : List Nat) (w : World) (e : Ending) (w' : World) : Prop :=
  e = .returned (.int .i64 (k + (m.cnt x : Nat))) ∧ s.own w' lo hi cs (m.mark x k) bl ∧ Only bl w w'
theorem MarkV.mk {α : Type} {s : Sh α} {m : Mk α} {lo hi : Nat} {cs : List Value} {x : α} {k n : Int} {bl : List Nat} {w w' : World} (h : Hid (n = k + (m.cnt x : Nat))) (hs : s.own w' lo hi cs (m.mark x k) bl) (ho : Only bl w w') : MarkV s m lo hi cs x k bl w (.returned (.int .i64 n)) w' := ⟨by rw [h.out], hs, ho⟩

theorem SO.of_own {α : Type} {s : Sh α} {w : World} {lo hi : Nat} {A : Option Addr} {n c : Nat} {xs : List α} {bl : List Nat} (h : (shL s).own w lo hi [.slice A n c] xs bl) : SO s w lo hi A c xs bl := by
  obtain ⟨A', c', e, h⟩ := h
  simp only [List.cons.injEq, Value.slice.injEq, and_true] at e
  obtain ⟨rfl, _, rfl⟩ := e
  exact h
end Go.Proofs.YtanjmolgpkffoaaGreatDoor

namespace Go.Proofs.YtanjmolgpkffoaaGreatDoor
open Go.RowKit
set_option linter.unusedVariables false
set_option linter.unusedSimpArgs false

/-- The elements ys lie in 'news', one after the other; bs: what each owns. -/
def Rowed {α : Type} (s : Sh α) (w : World) (lo hi : Nat) (news : List Value) (ys : List α) (bs : List (List Nat)) : Prop :=
  bs.length = ys.length ∧ news.length = ys.length * s.size ∧ ∀ i (h : i < ys.length), ∃ cs b, bs[i]? = some b ∧ cs.length = s.size ∧ (∀ j, j < s.size → news[i * s.size + j]? = cs[j]?) ∧ s.own w lo hi cs ys[i] b

section
variable {P : Program} {α : Type} {s : Sh α} {w : World}
theorem Rowed.one (hg : Good s) {lo hi : Nat} {cs : List Value} {y : α} {b : List Nat} (h : s.own w lo hi cs y b) : Rowed s w lo hi cs [y] [b] := by
  have hl := hg.len (hg.own_rep h)
  refine ⟨rfl, by simp [hl], fun i hi => ?_⟩
  obtain rfl : i = 0 := by simp at hi; exact hi
  exact ⟨cs, b, rfl, hl, fun j _ => by simp, h⟩
theorem Rowed.flat (hg : Good s) (hf : Flat s) {lo hi lo' hi' g off : Nat} {xs : List α} (h : ∀ i (h : i < xs.length), ∃ cs, ElemAt w g off s.size i cs ∧ s.rep w lo' hi' cs xs[i]) :
    ∃ news, Rowed s w lo hi news xs (List.replicate xs.length []) ∧ ∀ j u, news[j]? = some u → w.cell? ((⟨g, off, none⟩ : Addr).add j) = some u := by
  obtain ⟨news, hl, hn, hel⟩ := row_cells hg h
  refine ⟨news, ⟨by simp, hl, fun i hi => ?_⟩, hn⟩
  obtain ⟨cs, hcl, hcj, hrep⟩ := hel i hi
  exact ⟨cs, [], by simp [hi], hcl, hcj, hf.own hrep _ _ _⟩
theorem Rowed.ones (hg : Good s) {lo hi : Nat} {news : List Value} {ys : List α} {bs : List (List Nat)} (h : Rowed s w lo hi news ys bs) : ∀ u ∈ news, u.oneCell' = true := by
  intro u hu
  obtain ⟨k, hk, rfl⟩ := List.getElem_of_mem hu
  have hp := hg.pos
  rw [h.2.1] at hk
  have hi : k / s.size < ys.length := (Nat.div_lt_iff_lt_mul hp).2 hk
  obtain ⟨cs, b, _, hl, hc, ho⟩ := h.2.2 _ hi
  have hj : k % s.size < s.size := Nat.mod_lt _ hp
  have e := hc _ hj
  rw [Nat.mul_comm, Nat.div_add_mod, List.getElem?_eq_getElem (by rw [h.2.1]; exact hk), List.getElem?_eq_getElem (by rw [hl]; exact hj)] at e
  injection e with e
  rw [e]
  exact hg.one (hg.own_rep ho) _ (List.getElem_mem _)

end
end Go.Proofs.YtanjmolgpkffoaaGreatDoor

namespace Go.Proofs.YtanjmolgpkffoaaGreatDoor
open Go.RowKit
set_option linter.unusedVariables false

def zs (n : Nat) : ByteArray := ⟨(List.replicate n 0).toArray⟩
end Go.Proofs.YtanjmolgpkffoaaGreatDoor

namespace Go.Proofs.YtanjmolgpkffoaaGreatDoor
open Go.RowKit
set_option linter.unusedVariables false
set_option linter.unusedSimpArgs false

def shU : Sh UInt8 where
  size := 1
  rep := fun _ _ _ cs b => cs = [.int .u8 (b.toNat : Int)]
  own := fun _ _ _ cs b bl => cs = [.int .u8 (b.toNat : Int)] ∧ bl = []
  sz := fun _ => 0
theorem good_U : Good shU := by
  refine ⟨?_, ?_, ?_, ?_, ?_, ?_, ?_, ?_, by decide, ?_⟩ <;> simp +contextual [shU, Value.oneCell']
theorem SO.bytes {w : World} {lo hi : Nat} {A : Option Addr} {c : Nat} {xs : List UInt8} {bl : List Nat} (h : SO shU w lo hi A c xs bl) (hp : 0 < xs.length) : ∃ g off, A = some ⟨g, off, none⟩ ∧ Lib.Bytes w g off ⟨xs.toArray⟩ := by
  obtain ⟨g, off, hA, _, _, h3⟩ := (h.rep good_U).2.2 hp
  refine ⟨g, off, hA, fun i hi => ?_⟩
  have hi' : i < xs.length := by simpa [ByteArray.size] using hi
  obtain ⟨cs, hc, rfl⟩ := h3 i hi'
  have := hc.2 0 (by decide)
  have e : (ByteArray.mk xs.toArray)[i] = xs[i] := by simp [ByteArray.getElem_eq_getElem_data]
  rw [e]
  simpa [shU] using this

end Go.Proofs.YtanjmolgpkffoaaGreatDoor
