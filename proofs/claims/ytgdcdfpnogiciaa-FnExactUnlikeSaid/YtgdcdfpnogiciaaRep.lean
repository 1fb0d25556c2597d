/-
  Lemmas of ours: how Go's values of plain data lie in memory. 'Sh a' is a shape: cells that represent a Lean value; 'rep': they read as it, inside blocks lo .. hi; 'own': they own their blocks. No program is named here.
-/
import Derived.WalkKit
import Derived.WalkSpells
import Derived.WalkLawsBesides
import Derived.Deep.Slices
import Derived.Deep.Fields
import Derived.Deep.Draws
import Derived.Deep.QuietTactic
import Derived.BigQuiet
import Derived.Lib.Hide
namespace Go.Proofs.Ytgdcdfpnogiciaa
open Go.RowKit Go.ChangeShapes Go.WideShapes Go.Deep

/-! ### Worlds that only grow -/
abbrev Up (w w' : World) : Prop := Below w.heap.size w w'
theorem Up.refl (w : World) : Up w w := Below.refl _ _
theorem Up.trans {a b c : World} (h : Up a b) (k : Up b c) : Up a c := Below.trans h (Below.mono k h.size)
theorem Up.alloc {a w : World} (h : Up a w) (o : Obj) : Up a (w.alloc o) := Below.alloc h h.size o
theorem Up.drew {a w : World} (h : Up a w) : Up a w.drew := Below.drew h
theorem Up.drewN {a w : World} (h : Up a w) (n : Nat) : Up a (w.drewN n) := ⟨h.os, h.tape, h.output, h.size, h.block⟩
theorem Up.setCell {a w : World} (h : Up a w) {p : Addr} (hp : a.heap.size ≤ p.block) (u : Value) : Up a (w.setCell p u) := Below.setCell h hp u
theorem Up.q {a w : World} (h : ∃ n, w = a.drewN n) : Up a w := by obtain ⟨n, rfl⟩ := h; exact (Up.refl a).drewN n
theorem qq1 (w : World) (n : Nat) : ∃ m, w.drewN n = w.drewN m := ⟨n, rfl⟩
theorem qq2 (w : World) (n k : Nat) : ∃ m, (w.drewN n).drewN k = w.drewN m := ⟨n + k, by simp⟩
theorem qq0 (w : World) : ∃ m, w = w.drewN m := ⟨0, rfl⟩

def Keeps (lo hi : Nat) (w w' : World) : Prop := ∀ b, lo ≤ b → b < hi → w'.heap[b]? = w.heap[b]?
theorem Up.keeps {a w : World} (h : Up a w) {lo hi : Nat} (hh : hi ≤ a.heap.size) : Keeps lo hi a w := fun b _ hb => h.block b (by omega)

/-! ### Shapes -/
structure Sh (α : Type) where
  size : Nat
  rep : World → Nat → Nat → List Value → α → Prop
  own : World → Nat → Nat → List Value → α → List Nat → Prop
  sz : α → Nat

structure Good {α : Type} (s : Sh α) : Prop where
  len : ∀ {w lo hi cs x}, s.rep w lo hi cs x → cs.length = s.size
  keep : ∀ {w w' lo hi cs x}, s.rep w lo hi cs x → Keeps lo hi w w' → s.rep w' lo hi cs x
  wide : ∀ {w lo hi lo' hi' cs x}, s.rep w lo hi cs x → lo' ≤ lo → hi ≤ hi' → s.rep w lo' hi' cs x
  own_rep : ∀ {w lo hi cs x bl}, s.own w lo hi cs x bl → s.rep w lo hi cs x
  own_in : ∀ {w lo hi cs x bl}, s.own w lo hi cs x bl → ∀ b ∈ bl, lo ≤ b ∧ b < hi
  own_keep : ∀ {w w' lo hi cs x bl}, s.own w lo hi cs x bl → (∀ b ∈ bl, w'.heap[b]? = w.heap[b]?) → s.own w' lo hi cs x bl
  own_wide : ∀ {w lo hi lo' hi' cs x bl}, s.own w lo hi cs x bl → lo' ≤ lo → hi ≤ hi' → s.own w lo' hi' cs x bl
  own_le : ∀ {w lo hi cs x bl}, s.own w lo hi cs x bl → hi ≤ w.heap.size ∨ ∀ b ∈ bl, b < w.heap.size
  pos : 0 < s.size
  one : ∀ {w lo hi cs x}, s.rep w lo hi cs x → ∀ u ∈ cs, u.oneCell' = true

def shI : Sh Int where
  size := 1
  rep := fun _ _ _ cs n => cs = [.int .i64 n] ∧ -9223372036854775808 ≤ n ∧ n ≤ 9223372036854775807
  own := fun _ _ _ cs n bl => (cs = [.int .i64 n] ∧ -9223372036854775808 ≤ n ∧ n ≤ 9223372036854775807) ∧ bl = []
  sz := fun _ => 0
def shB : Sh Bool where
  size := 1
  rep := fun _ _ _ cs b => cs = [.bool b]
  own := fun _ _ _ cs b bl => cs = [.bool b] ∧ bl = []
  sz := fun _ => 0
def shS : Sh ByteArray where
  size := 1
  rep := fun _ _ _ cs s => cs = [.string s] ∧ s.size ≤ maxLen
  own := fun _ _ _ cs s bl => (cs = [.string s] ∧ s.size ≤ maxLen) ∧ bl = []
  sz := fun s => s.size
def shP {α β : Type} (a : Sh α) (b : Sh β) : Sh (α × β) where
  size := a.size + b.size
  rep := fun w lo hi cs p => a.rep w lo hi (cs.take a.size) p.1 ∧ b.rep w lo hi (cs.drop a.size) p.2
  own := fun w lo hi cs p bl => ∃ b1 b2, bl = b1 ++ b2 ∧ a.own w lo hi (cs.take a.size) p.1 b1 ∧ b.own w lo hi (cs.drop a.size) p.2 b2
  sz := fun p => a.sz p.1 + b.sz p.2

/-- The cells of element i of a row. -/
def ElemAt (w : World) (g off size i : Nat) (cs : List Value) : Prop := cs.length = size ∧ ∀ j, j < size → w.cell? ⟨g, off + (i * size + j), none⟩ = cs[j]?

/-- A slice that reads as a list: its value is '.slice A xs.length c'. -/
def SR {α : Type} (s : Sh α) (w : World) (lo hi : Nat) (A : Option Addr) (c : Nat) (xs : List α) : Prop :=
  xs.length ≤ c ∧ c ≤ maxLen ∧ (0 < xs.length → ∃ g off, A = some ⟨g, off, none⟩ ∧ lo ≤ g ∧ g < hi ∧ ∀ i (h : i < xs.length), ∃ cs, ElemAt w g off s.size i cs ∧ s.rep w lo hi cs xs[i])

/-- A slice that owns its row and what its elements own. -/
def SO {α : Type} (s : Sh α) (w : World) (lo hi : Nat) (A : Option Addr) (c : Nat) (xs : List α) (bl : List Nat) : Prop :=
  xs.length ≤ c ∧ c ≤ maxLen ∧ ((xs = [] ∧ bl = [] ∧ c = 0) ∨ ∃ (g off : Nat) (C : Array Value) (tid : TypeId) (bls : List (List Nat)), A = some ⟨g, off, none⟩ ∧ lo ≤ g ∧ g < hi ∧ w.heap[g]? = some (.cells C tid (0, 0)) ∧ off + c * s.size ≤ C.size ∧ bl = g :: bls.flatten ∧ bls.length = xs.length ∧
    ∀ i (h : i < xs.length), ∃ cs b, bls[i]? = some b ∧ cs.length = s.size ∧ (∀ j, j < s.size → C[off + (i * s.size + j)]? = cs[j]?) ∧ s.own w lo hi cs xs[i] b)

def shL {α : Type} (s : Sh α) : Sh (List α) where
  size := 1
  rep := fun w lo hi cs xs => ∃ A c, cs = [.slice A xs.length c] ∧ SR s w lo hi A c xs
  own := fun w lo hi cs xs bl => ∃ A c, cs = [.slice A xs.length c] ∧ SO s w lo hi A c xs bl
  sz := fun xs => xs.length + (xs.map s.sz).sum

theorem good_I : Good shI := by
  refine ⟨?_, ?_, ?_, ?_, ?_, ?_, ?_, ?_, by decide, ?_⟩ <;> simp +contextual [shI, Value.oneCell']
theorem good_B : Good shB := by
  refine ⟨?_, ?_, ?_, ?_, ?_, ?_, ?_, ?_, by decide, ?_⟩ <;> simp +contextual [shB, Value.oneCell']
theorem good_S : Good shS := by
  refine ⟨?_, ?_, ?_, ?_, ?_, ?_, ?_, ?_, by decide, ?_⟩ <;> simp +contextual [shS, Value.oneCell']
theorem good_P {α β : Type} {a : Sh α} {b : Sh β} (ha : Good a) (hb : Good b) : Good (shP a b) where
  len := fun {w lo hi cs x} h => by
    have h1 := ha.len h.1
    have h2 := hb.len h.2
    have hp := hb.pos
    simp only [List.length_take, List.length_drop] at h1 h2
    show cs.length = a.size + b.size
    omega
  keep := fun h k => ⟨ha.keep h.1 k, hb.keep h.2 k⟩
  wide := fun h k l => ⟨ha.wide h.1 k l, hb.wide h.2 k l⟩
  own_rep := fun h => by obtain ⟨_, _, _, h1, h2⟩ := h; exact ⟨ha.own_rep h1, hb.own_rep h2⟩
  own_in := fun h b hb' => by
    obtain ⟨_, _, rfl, h1, h2⟩ := h
    rcases List.mem_append.1 hb' with h | h
    · exact ha.own_in h1 b h
    · exact hb.own_in h2 b h
  own_keep := fun h k => by
    obtain ⟨b1, b2, rfl, h1, h2⟩ := h
    exact ⟨b1, b2, rfl, ha.own_keep h1 (fun b hb => k b (List.mem_append_left _ hb)), hb.own_keep h2 (fun b hb => k b (List.mem_append_right _ hb))⟩
  own_wide := fun h k l => by
    obtain ⟨b1, b2, rfl, h1, h2⟩ := h
    exact ⟨b1, b2, rfl, ha.own_wide h1 k l, hb.own_wide h2 k l⟩
  own_le := fun h => by
    obtain ⟨b1, b2, rfl, h1, h2⟩ := h
    rcases ha.own_le h1 with h | h
    · exact .inl h
    · rcases hb.own_le h2 with h' | h'
      · exact .inl h'
      · refine .inr fun b hb => ?_
        rcases List.mem_append.1 hb with hb | hb
        · exact h b hb
        · exact h' b hb
  pos := by show 0 < a.size + b.size; have := ha.pos; omega
  one := fun {w lo hi cs x} h u hu => by
    rw [← List.take_append_drop a.size cs] at hu
    rcases List.mem_append.1 hu with hu | hu
    · exact ha.one h.1 u hu
    · exact hb.one h.2 u hu

theorem ElemAt.keep {w w' : World} {lo hi g off size i : Nat} {cs : List Value} (h : ElemAt w g off size i cs) (k : Keeps lo hi w w') (h1 : lo ≤ g) (h2 : g < hi) : ElemAt w' g off size i cs :=
  ⟨h.1, fun j hj => (World.cell?_of_block (w := w) (w' := w') (a := ⟨g, off + (i * size + j), none⟩) (k g h1 h2)).trans (h.2 j hj)⟩

section
variable {α : Type} {s : Sh α} {w w' : World} {lo hi lo' hi' : Nat} {A : Option Addr} {c : Nat} {xs : List α} {bl : List Nat}
theorem SR.keep (hg : Good s) (h : SR s w lo hi A c xs) (k : Keeps lo hi w w') : SR s w' lo hi A c xs := by
  refine ⟨h.1, h.2.1, fun hp => ?_⟩
  obtain ⟨g, off, hA, h1, h2, h3⟩ := h.2.2 hp
  refine ⟨g, off, hA, h1, h2, fun i hi => ?_⟩
  obtain ⟨cs, hc, hr⟩ := h3 i hi
  exact ⟨cs, hc.keep k h1 h2, hg.keep hr k⟩
theorem SR.wide (hg : Good s) (h : SR s w lo hi A c xs) (k : lo' ≤ lo) (l : hi ≤ hi') : SR s w lo' hi' A c xs := by
  refine ⟨h.1, h.2.1, fun hp => ?_⟩
  obtain ⟨g, off, hA, h1, h2, h3⟩ := h.2.2 hp
  refine ⟨g, off, hA, by omega, by omega, fun i hi => ?_⟩
  obtain ⟨cs, hc, hr⟩ := h3 i hi
  exact ⟨cs, hc, hg.wide hr k l⟩
theorem SO.rep (hg : Good s) (h : SO s w lo hi A c xs bl) : SR s w lo hi A c xs := by
  refine ⟨h.1, h.2.1, fun hp => ?_⟩
  rcases h.2.2 with ⟨rfl, _⟩ | ⟨g, off, C, tid, bls, hA, h1, h2, hh, hcap, _, hbl, h3⟩
  · simp at hp
  · refine ⟨g, off, hA, h1, h2, fun i hi => ?_⟩
    obtain ⟨cs, b, _, hl, hc, hr⟩ := h3 i hi
    refine ⟨cs, ⟨hl, fun j hj => ?_⟩, hg.own_rep hr⟩
    rw [← hc j hj]
    simp [World.cell?, hh]
theorem SO.in_ (hg : Good s) (h : SO s w lo hi A c xs bl) : ∀ b ∈ bl, lo ≤ b ∧ b < hi := by
  intro b hb
  rcases h.2.2 with ⟨_, rfl, _⟩ | ⟨g, off, C, tid, bls, hA, h1, h2, hh, hcap, rfl, hbl, h3⟩
  · simp at hb
  · rcases List.mem_cons.1 hb with rfl | hb
    · exact ⟨h1, h2⟩
    · obtain ⟨l, hl, hbl'⟩ := List.mem_flatten.1 hb
      obtain ⟨i, hi, rfl⟩ := List.getElem_of_mem hl
      obtain ⟨cs, b', hb', _, _, hr⟩ := h3 i (by omega)
      rw [List.getElem?_eq_getElem hi] at hb'
      injection hb' with hb'
      subst hb'
      exact hg.own_in hr b hbl'
theorem SO.keep (hg : Good s) (h : SO s w lo hi A c xs bl) (k : ∀ b ∈ bl, w'.heap[b]? = w.heap[b]?) : SO s w' lo hi A c xs bl := by
  refine ⟨h.1, h.2.1, ?_⟩
  rcases h.2.2 with h0 | ⟨g, off, C, tid, bls, hA, h1, h2, hh, hcap, rfl, hbl, h3⟩
  · exact .inl h0
  · refine .inr ⟨g, off, C, tid, bls, hA, h1, h2, (k g (by simp)).trans hh, hcap, rfl, hbl, fun i hi => ?_⟩
    obtain ⟨cs, b, hb, hl, hc, hr⟩ := h3 i hi
    refine ⟨cs, b, hb, hl, hc, hg.own_keep hr fun x hx => k x ?_⟩
    exact List.mem_cons_of_mem _ (List.mem_flatten.2 ⟨b, List.mem_of_getElem? hb, hx⟩)
theorem SO.wide (hg : Good s) (h : SO s w lo hi A c xs bl) (k : lo' ≤ lo) (l : hi ≤ hi') : SO s w lo' hi' A c xs bl := by
  refine ⟨h.1, h.2.1, ?_⟩
  rcases h.2.2 with h0 | ⟨g, off, C, tid, bls, hA, h1, h2, hh, hcap, rfl, hbl, h3⟩
  · exact .inl h0
  · refine .inr ⟨g, off, C, tid, bls, hA, by omega, by omega, hh, hcap, rfl, hbl, fun i hi => ?_⟩
    obtain ⟨cs, b, hb, hl, hc, hr⟩ := h3 i hi
    exact ⟨cs, b, hb, hl, hc, hg.own_wide hr k l⟩
theorem SO.lt (hg : Good s) (h : SO s w lo hi A c xs bl) : hi ≤ w.heap.size ∨ ∀ b ∈ bl, b < w.heap.size := by
  rcases Nat.lt_or_ge w.heap.size hi with hlt | hge
  · refine .inr fun b hb => ?_
    rcases h.2.2 with ⟨_, rfl, _⟩ | ⟨g, off, C, tid, bls, hA, h1, h2, hh, hcap, rfl, hbl, h3⟩
    · simp at hb
    · rcases List.mem_cons.1 hb with rfl | hb
      · rcases Nat.lt_or_ge b w.heap.size with h | h
        · exact h
        · rw [Array.getElem?_eq_none h] at hh; cases hh
      · obtain ⟨l, hl, hbl'⟩ := List.mem_flatten.1 hb
        obtain ⟨i, hi, rfl⟩ := List.getElem_of_mem hl
        obtain ⟨cs, b', hb', _, _, hr⟩ := h3 i (by omega)
        rw [List.getElem?_eq_getElem hi] at hb'
        injection hb' with hb'
        subst hb'
        rcases hg.own_le hr with h | h
        · omega
        · exact h b hbl'
  · exact .inl hge
end

theorem good_L {α : Type} {s : Sh α} (hg : Good s) : Good (shL s) where
  len := fun h => by obtain ⟨A, c, rfl, _⟩ := h; rfl
  keep := fun h k => by obtain ⟨A, c, e, h⟩ := h; exact ⟨A, c, e, h.keep hg k⟩
  wide := fun h k l => by obtain ⟨A, c, e, h⟩ := h; exact ⟨A, c, e, h.wide hg k l⟩
  own_rep := fun h => by obtain ⟨A, c, e, h⟩ := h; exact ⟨A, c, e, h.rep hg⟩
  own_in := fun h => by obtain ⟨A, c, e, h⟩ := h; exact h.in_ hg
  own_keep := fun h k => by obtain ⟨A, c, e, h⟩ := h; exact ⟨A, c, e, h.keep hg k⟩
  own_wide := fun h k l => by obtain ⟨A, c, e, h⟩ := h; exact ⟨A, c, e, h.wide hg k l⟩
  own_le := fun h => by obtain ⟨A, c, e, h⟩ := h; exact h.lt hg
  pos := Nat.one_pos
  one := fun h u hu => by obtain ⟨A, c, rfl, _⟩ := h; simp at hu; subst hu; rfl

/-- An argument of a call: it reads in the world as it stands, wherever it lies. -/
abbrev SRW {α : Type} (s : Sh α) (w : World) (A : Option Addr) (c : Nat) (xs : List α) : Prop := SR s w 0 w.heap.size A c xs
theorem SR.up {α : Type} {s : Sh α} {w w' : World} {A : Option Addr} {c : Nat} {xs : List α} (hg : Good s) (h : SRW s w A c xs) (k : Up w w') : SRW s w' A c xs :=
  (h.keep hg (k.keeps (Nat.le_refl _))).wide hg (Nat.le_refl _) k.size
theorem SR.upS {w w' : World} {A : Option Addr} {c : Nat} {xs : List ByteArray} (h : SRW shS w A c xs) (k : Up w w') : SRW shS w' A c xs := h.up good_S k
theorem SR.upI {w w' : World} {A : Option Addr} {c : Nat} {xs : List Int} (h : SRW shI w A c xs) (k : Up w w') : SRW shI w' A c xs := h.up good_I k

section
variable {w : World} {lo hi : Nat} {A : Option Addr} {c : Nat}
theorem SR.len_le {α : Type} {s : Sh α} {xs : List α} (h : SR s w lo hi A c xs) : xs.length ≤ 9223372036854775807 := by have := h.1; have h2 := h.2.1; unfold maxLen at h2; omega
theorem SR.at_ {α : Type} {s : Sh α} {xs : List α} (h : SR s w lo hi A c xs) {i : Nat} (hi' : i < xs.length) :
    ∃ g off cs, A = some ⟨g, off, none⟩ ∧ lo ≤ g ∧ g < hi ∧ ElemAt w g off s.size i cs ∧ s.rep w lo hi cs xs[i] := by
  obtain ⟨g, off, hA, h1, h2, h3⟩ := h.2.2 (by omega)
  obtain ⟨cs, hc, hr⟩ := h3 i hi'
  exact ⟨g, off, cs, hA, h1, h2, hc, hr⟩
theorem SR.at_S {xs : List ByteArray} (h : SR shS w lo hi A c xs) {i : Nat} (hi' : i < xs.length) :
    ∃ g off, A = some ⟨g, off, none⟩ ∧ lo ≤ g ∧ g < hi ∧ w.cell? ⟨g, off + i, none⟩ = some (.string xs[i]) ∧ xs[i].size ≤ 9223372036854775807 := by
  obtain ⟨g, off, cs, hA, h1, h2, hc, rfl, hr⟩ := h.at_ hi'
  have := hc.2 0 (by decide)
  exact ⟨g, off, hA, h1, h2, by simpa [shS] using this, by unfold maxLen at hr; omega⟩
theorem SR.at_I {xs : List Int} (h : SR shI w lo hi A c xs) {i : Nat} (hi' : i < xs.length) :
    ∃ g off, A = some ⟨g, off, none⟩ ∧ lo ≤ g ∧ g < hi ∧ w.cell? ⟨g, off + i, none⟩ = some (.int .i64 xs[i]) ∧ -9223372036854775808 ≤ xs[i] ∧ xs[i] ≤ 9223372036854775807 := by
  obtain ⟨g, off, cs, hA, h1, h2, hc, rfl, hr⟩ := h.at_ hi'
  have := hc.2 0 (by decide)
  exact ⟨g, off, hA, h1, h2, by simpa [shI] using this, hr⟩
theorem SR.nil {α : Type} {s : Sh α} (w : World) (lo hi : Nat) : SR s w lo hi none 0 [] := ⟨Nat.le_refl _, Nat.zero_le _, fun h => absurd h (by simp)⟩
theorem SO.nil {α : Type} {s : Sh α} (w : World) (lo hi : Nat) : SO s w lo hi none 0 [] [] := ⟨Nat.le_refl _, Nat.zero_le _, .inl ⟨rfl, rfl, rfl⟩⟩
end

/-! ### From the row's reading to shapes -/
/-- That a shape fits a type of the program. -/
structure Fits {α : Type} (s : Sh α) (P : Program) (t : TypeId) : Prop where
  one : P.cellsOf t = s.size
  two : ∀ {H : Type} {enc : TypeId × Value → H} {w : World} {base : Nat} {spare : Nat → Bool} {held : Bool} {fuel : Nat} {cs : List Value} {x : DataW H × List MemPlace},
    DataW.trod enc P w base spare held fuel t cs = some x → ∃ d : α, s.rep w 0 w.heap.size cs d

theorem fits_I {P : Program} {t : TypeId} (h : P.underlying t = some (.int .i64)) (hc : P.cellsOf t = 1) : Fits shI P t :=
  ⟨hc, fun hx => by
    obtain ⟨n, rfl, _, hw⟩ := DataW.trod_int h hx
    refine ⟨n, rfl, ?_⟩
    simp [Lit.wf, IntKind.min, IntKind.max, IntKind.signed, IntKind.bits] at hw
    omega⟩
theorem fits_B {P : Program} {t : TypeId} (h : P.underlying t = some .bool) (hc : P.cellsOf t = 1) : Fits shB P t :=
  ⟨hc, fun hx => by obtain ⟨n, rfl, _⟩ := DataW.trod_bool h hx; exact ⟨n, rfl⟩⟩
theorem fits_S {P : Program} {t : TypeId} (h : P.underlying t = some .string) (hc : P.cellsOf t = 1) : Fits shS P t :=
  ⟨hc, fun hx => by obtain ⟨s, rfl, _, hs⟩ := DataW.trod_string h hx; exact ⟨s, rfl, hs⟩⟩

theorem cell_lt {w : World} {a : Addr} {v : Value} (h : w.cell? a = some v) : a.block < w.heap.size := by
  rcases Nat.lt_or_ge a.block w.heap.size with hlt | hge
  · exact hlt
  · unfold World.cell? at h; rw [Array.getElem?_eq_none hge] at h; cases h

theorem fits_L {α : Type} {s : Sh α} (hg : Good s) {P : Program} {t e : TypeId} (h : P.underlying t = some (.slice e)) (hc : P.cellsOf t = 1) (hf : Fits s P e) : Fits (shL s) P t := by
  refine ⟨hc, fun {H enc w base spare held fuel cs x} hx => ?_⟩
  rcases open_slice h hx with ⟨rfl, _⟩ | ⟨a, len, cap, m, n, D, Pl, rfl, _, hl, hm, hmm, hxe, hi⟩
  · exact ⟨[], none, 0, rfl, SR.nil _ _ _⟩
  · have hlm : len ≤ m := by rw [hmm]; split <;> omega
    have hE : ∀ i, i < len → ∃ cs' d, cs'.length = s.size ∧ (∀ j, j < s.size → w.cell? ((a.add (i * s.size)).add j) = cs'[j]?) ∧ s.rep w 0 w.heap.size cs' d := by
      intro i hil
      obtain ⟨cs', h1, h2⟩ := hi i (by omega)
      obtain ⟨d, hd⟩ := hf.two h2
      obtain ⟨_, hlen, hcell⟩ := World.cells?_some h1
      rw [hf.one] at hlen hcell
      exact ⟨cs', d, hlen, hcell, hd⟩
    have hx : ∃ ds : List α, ds.length = len ∧ ∀ i (hi : i < ds.length), ∃ cs', cs'.length = s.size ∧ (∀ j, j < s.size → w.cell? ((a.add (i * s.size)).add j) = cs'[j]?) ∧ s.rep w 0 w.heap.size cs' ds[i] := by
      clear hi hl hm hmm hlm hx hxe
      revert hE
      induction len with
      | zero => exact fun _ => ⟨[], rfl, fun i hi => absurd hi (by simp)⟩
      | succ k ih =>
        intro hE
        obtain ⟨ds, hd, hds⟩ := ih (fun i hi => hE i (by omega))
        obtain ⟨cs', d, h1, h2, h3⟩ := hE k (by omega)
        refine ⟨ds ++ [d], by simp [hd], fun i hi => ?_⟩
        by_cases hik : i < ds.length
        · obtain ⟨c1, e1, e2, e3⟩ := hds i hik
          exact ⟨c1, e1, e2, by rw [List.getElem_append_left hik]; exact e3⟩
        · have : i = k := by simp at hi; omega
          subst this
          exact ⟨cs', h1, h2, by rw [List.getElem_append_right (by omega)]; simpa using h3⟩
    obtain ⟨ds, hdl, hds⟩ := hx
    subst hdl
    refine ⟨ds, some a, cap, rfl, hl, hm, fun hp => ?_⟩
    obtain ⟨b, off, spot⟩ := a
    obtain ⟨cs0, hl0, hc0, _⟩ := hds 0 hp
    have h00 := hc0 0 hg.pos
    have hsome : ∃ v, cs0[0]? = some v := ⟨cs0[0]'(by rw [hl0]; exact hg.pos), List.getElem?_eq_getElem _⟩
    obtain ⟨v, hv⟩ := hsome
    rw [hv] at h00
    have hsp : spot = none := by simpa [Addr.add] using World.cell?_spot h00
    subst hsp
    have hlt : b < w.heap.size := by simpa [Addr.add] using cell_lt h00
    refine ⟨b, off, rfl, Nat.zero_le _, hlt, fun i hi => ?_⟩
    obtain ⟨cs', h1, h2, h3⟩ := hds i hi
    refine ⟨cs', ⟨h1, fun j hj => ?_⟩, h3⟩
    rw [← h2 j hj]
    congr 1
    unfold Addr.add
    by_cases e1 : i * s.size = 0 <;> by_cases e2 : j = 0 <;> simp [e1, e2, Nat.add_assoc]

structure FitsF {α : Type} (s : Sh α) (P : Program) (fs : List Field) (off : Nat) : Prop where
  out : ∀ {H : Type} {enc : TypeId × Value → H} {w : World} {base : Nat} {spare : Nat → Bool} {held : Bool} {fuel : Nat} {cs : List Value}, cs.length = off + s.size →
    (∀ f ∈ fs, ∃ x, DataW.trod enc P w base spare held fuel f.type ((cs.drop f.offset).take (P.cellsOf f.type)) = some x) → ∃ d : α, s.rep w 0 w.heap.size (cs.drop off) d

theorem fitsF_one {α : Type} {s : Sh α} {P : Program} {f : Field} {off : Nat} (hf : Fits s P f.type) (ho : f.offset = off) : FitsF s P [f] off := by
  refine ⟨fun {H enc w base spare held fuel cs} hlen hall => ?_⟩
  obtain ⟨x, hx⟩ := hall f (by simp)
  obtain ⟨d, hd⟩ := hf.two hx
  rw [ho, hf.one, List.take_of_length_le (by simp; omega)] at hd
  exact ⟨d, hd⟩
theorem fitsF_cons {α β : Type} {a : Sh α} {b : Sh β} {P : Program} {f : Field} {fs : List Field} {off : Nat} (hf : Fits a P f.type) (ho : f.offset = off) (hr : FitsF b P fs (off + a.size)) : FitsF (shP a b) P (f :: fs) off := by
  refine ⟨fun {H enc w base spare held fuel cs} hlen hall => ?_⟩
  obtain ⟨x, hx⟩ := hall f (by simp)
  obtain ⟨d, hd⟩ := hf.two hx
  rw [ho, hf.one] at hd
  obtain ⟨e, he⟩ := hr.out (by rw [hlen]; show off + (a.size + b.size) = _; omega) (fun g hg => hall g (List.mem_cons_of_mem _ hg))
  exact ⟨(d, e), hd, by rw [List.drop_drop]; exact he⟩
theorem fits_struct {α : Type} {s : Sh α} {P : Program} {t : TypeId} {fs : Array Field} (h : P.underlying t = some (.struct fs)) (hc : P.cellsOf t = s.size) (hf : FitsF s P fs.toList 0) : Fits s P t := by
  refine ⟨hc, fun {H enc w base spare held fuel cs x} hx => ?_⟩
  obtain ⟨xs, n, _, _, hlen, hxl, hall⟩ := DataW.trod_struct h hx
  have := hf.out (enc := enc) (w := w) (base := base) (spare := spare) (held := held) (fuel := n) (cs := cs) (by rw [hlen, hc, Nat.zero_add]) (fun f hfm => by
    obtain ⟨i, hi, rfl⟩ := List.getElem_of_mem hfm
    have hi' : i < fs.size := by simpa using hi
    have h1 := hall i (fs.toList[i]) (by simp [hi'])
    rw [List.getElem?_eq_getElem (by omega)] at h1
    exact ⟨_, h1⟩)
  simpa using this

/-! ### Structs -/
theorem open_P {α β : Type} {a : Sh α} {b : Sh β} {w : World} {lo hi : Nat} {cs : List Value} {x : α × β} (h : (shP a b).rep w lo hi cs x) :
    ∃ c1 c2, cs = c1 ++ c2 ∧ a.rep w lo hi c1 x.1 ∧ b.rep w lo hi c2 x.2 := ⟨_, _, (List.take_append_drop _ _).symm, h.1, h.2⟩
theorem mk_P {α β : Type} {a : Sh α} {b : Sh β} (ha : Good a) {w : World} {lo hi : Nat} {c1 c2 : List Value} {x : α × β} (h1 : a.rep w lo hi c1 x.1) (h2 : b.rep w lo hi c2 x.2) : (shP a b).rep w lo hi (c1 ++ c2) x := by
  have := ha.len h1
  exact ⟨by rw [List.take_left' this]; exact h1, by rw [List.drop_left' this]; exact h2⟩
theorem openO_P {α β : Type} {a : Sh α} {b : Sh β} {w : World} {lo hi : Nat} {cs : List Value} {x : α × β} {bl : List Nat} (h : (shP a b).own w lo hi cs x bl) :
    ∃ c1 c2 b1 b2, cs = c1 ++ c2 ∧ bl = b1 ++ b2 ∧ a.own w lo hi c1 x.1 b1 ∧ b.own w lo hi c2 x.2 b2 := by
  obtain ⟨b1, b2, e, h1, h2⟩ := h
  exact ⟨_, _, b1, b2, (List.take_append_drop _ _).symm, e, h1, h2⟩
theorem mkO_P {α β : Type} {a : Sh α} {b : Sh β} (ha : Good a) {w : World} {lo hi : Nat} {c1 c2 : List Value} {x : α × β} {b1 b2 : List Nat} (h1 : a.own w lo hi c1 x.1 b1) (h2 : b.own w lo hi c2 x.2 b2) : (shP a b).own w lo hi (c1 ++ c2) x (b1 ++ b2) := by
  have := ha.len (ha.own_rep h1)
  exact ⟨b1, b2, rfl, by rw [List.take_left' this]; exact h1, by rw [List.drop_left' this]; exact h2⟩

abbrev I64 (n : Int) : Prop := -9223372036854775808 ≤ n ∧ n ≤ 9223372036854775807

/-- A struct argument by value. -/
def AV {α : Type} (s : Sh α) (w : World) (v : Value) (d : α) : Prop := ∃ cs, v = .agg cs.toArray ∧ s.rep w 0 w.heap.size cs d
theorem rep_up {α : Type} {s : Sh α} (hg : Good s) {w w' : World} {cs : List Value} {d : α} (h : s.rep w 0 w.heap.size cs d) (k : Up w w') : s.rep w' 0 w'.heap.size cs d :=
  hg.wide (hg.keep h (k.keeps (Nat.le_refl _))) (Nat.le_refl _) k.size
theorem AV.up {α : Type} {s : Sh α} (hg : Good s) {w w' : World} {v : Value} {d : α} (h : AV s w v d) (k : Up w w') : AV s w' v d := by
  obtain ⟨cs, e, h⟩ := h
  exact ⟨cs, e, rep_up hg h k⟩

/-! ### Sums over the beginning of a list -/
def psum {α : Type} (f : α → Nat) (xs : List α) (k : Nat) : Nat := ((xs.take k).map f).sum
theorem psum_zero {α : Type} (f : α → Nat) (xs : List α) : psum f xs 0 = 0 := by simp [psum]
theorem psum_succ {α : Type} (f : α → Nat) (xs : List α) (k : Nat) (h : k < xs.length) : psum f xs (k + 1) = psum f xs k + f xs[k] := by
  unfold psum
  rw [List.take_succ_eq_append_getElem h, List.map_append, List.sum_append]
  simp
theorem psum_all {α : Type} (f : α → Nat) (xs : List α) : psum f xs xs.length = (xs.map f).sum := by simp [psum]
theorem psum_le {α : Type} (f : α → Nat) (xs : List α) (k : Nat) : psum f xs k ≤ (xs.map f).sum := by
  have : (xs.map f).sum = psum f xs k + ((xs.drop k).map f).sum := by
    unfold psum
    rw [← List.sum_append, ← List.map_append, List.take_append_drop]
  omega
def szR (left : Int) (T : Nat) : Int := if (T : Int) ≤ left then left - T else -1
theorem szR_yes {left : Int} {T : Nat} (h : (T : Int) ≤ left) : szR left T = left - T := if_pos h
theorem szR_no {left : Int} {T : Nat} (h : left < T) : szR left T = -1 := if_neg (by omega)
theorem szR_add (left : Int) (S T : Nat) : szR (left - S) T = szR left (S + T) := by
  unfold szR; by_cases h' : (T : Int) ≤ left - S
  · rw [if_pos h', if_pos (by omega)]; omega
  · rw [if_neg h', if_neg (by omega)]
def SzP (left : Int) (T : Nat) (w : World) (e : Ending) (w' : World) : Prop := e = .returned (.int .i64 (szR left T)) ∧ Up w w'
theorem SzP.yes {left : Int} {T : Nat} {w w' : World} {n : Int} (h : (T : Int) ≤ left) (hn : n = left - T) (u : Up w w') : SzP left T w (.returned (.int .i64 n)) w' := ⟨by rw [szR_yes h, hn], u⟩
theorem SzP.no {left : Int} {T : Nat} {w w' : World} (h : left < T) (u : Up w w') : SzP left T w (.returned (.int .i64 (-1))) w' := ⟨by rw [szR_no h], u⟩

/-! ### Equality -/
def EqP (p : Prop) (w : World) (e : Ending) (w' : World) : Prop := ∃ b : Bool, e = .returned (.bool b) ∧ (b = true ↔ p) ∧ Up w w'
theorem EqP.t {p : Prop} {w w' : World} (h : p) (u : Up w w') : EqP p w (.returned (.bool true)) w' := ⟨true, rfl, by simp [h], u⟩
theorem EqP.f {p : Prop} {w w' : World} (h : ¬ p) (u : Up w w') : EqP p w (.returned (.bool false)) w' := ⟨false, rfl, by simp [h], u⟩
theorem eqb_cases {b : Bool} {p : Prop} (h : b = true ↔ p) : (b = false ∧ ¬ p) ∨ (b = true ∧ p) := by
  cases b
  · exact .inl ⟨rfl, fun hp => absurd (h.2 hp) (by simp)⟩
  · exact .inr ⟨rfl, h.1 rfl⟩
theorem str_beq (a b : ByteArray) : (a.toList == b.toList) = decide (a = b) := by
  by_cases h : a = b
  · subst h; simp
  · have : ¬ a.toList = b.toList := fun e => h (by
      have ha : a = ⟨a.toList.toArray⟩ := by rw [ByteArray.toList_eq]
      have hb : b = ⟨b.toList.toArray⟩ := by rw [ByteArray.toList_eq]
      rw [ha, hb, e])
    simp [h, this]
theorem str_inj (a b : ByteArray) : (a.toList = b.toList) = (a = b) := by
  have h := str_beq a b
  by_cases e : a = b
  · subst e; simp
  · rw [decide_eq_false e] at h; simp at h; simp [e, h]
theorem take_snoc_eq {α : Type} {xs ys : List α} {k : Nat} (h : xs.take k = ys.take k) (h1 : k < xs.length) (h2 : k < ys.length) (e : xs[k] = ys[k]) : xs.take (k + 1) = ys.take (k + 1) := by
  rw [List.take_succ_eq_append_getElem h1, List.take_succ_eq_append_getElem h2, h, e]
theorem take_all_eq {α : Type} {xs ys : List α} {k : Nat} (h : xs.take k = ys.take k) (h1 : xs.length ≤ k) (h2 : ys.length ≤ k) : xs = ys := by
  rwa [List.take_of_length_le h1, List.take_of_length_le h2] at h
theorem ne_of_at {α : Type} {xs ys : List α} {k : Nat} (h1 : k < xs.length) (h2 : k < ys.length) (e : xs[k] ≠ ys[k]) : xs ≠ ys := fun h => by subst h; exact e rfl
theorem ne_of_len {α : Type} {xs ys : List α} (h : xs.length ≠ ys.length) : xs ≠ ys := fun e => h (by rw [e])
end Go.Proofs.Ytgdcdfpnogiciaa
