/-
  The way down to a key: the reference's.
  The way down to a key: the reference's search in a page, and its way.
  Maps from numbers: to blocks (pointers), and sets whose size is known. No program is named here.
  Pages by their ids: copyPage, pagesOf.
  The walk over a tree of pages: the program's.
  The walk over a tree of pages: the program's, one page.
  The walk over a tree of pages: the reference's, one page.
  The walks over a tree of pages, for all depths.
  BtreeOk: the program's.
  BtreeOk: the reference's.
  The way down to a key: the reference's way, and its depth.
  BtDepth: the reference's and the program's.
  Records: their shape, and the records below a page (plain).
-/
import Derived.Test.YtehhgogmbpdpbaaGreatDoorM1Bxg
import Derived.Test.YtehhgogmbpdpbaaGreatDoorM1K
import Derived.Deep.RegionHeld3
import Derived.Maps.Views
import Derived.Test.YtehhgogmbpdpbaaGreatDoorM1Bp
import Derived.Test.YtehhgogmbpdpbaaGreatDoorM1J
import Derived.Test.YtehhgogmbpdpbaaGreatDoorM1G
import Derived.Test.YtehhgogmbpdpbaaGreatDoorM1E
import Derived.Test.YtehhgogmbpdpbaaGreatDoorM1Qs
import Derived.Test.YtehhgogmbpdpbaaGreatDoorM1Rt
namespace Go.Proofs.YtehhgogmbpdpbaaGreatDoor
open Go.RowKit
set_option linter.unusedVariables false
set_option linter.unusedSimpArgs false

end Go.Proofs.YtehhgogmbpdpbaaGreatDoor

namespace Go.Proofs.YtehhgogmbpdpbaaGreatDoor
open Go.RowKit
set_option linter.unusedVariables false
set_option linter.unusedSimpArgs false

end Go.Proofs.YtehhgogmbpdpbaaGreatDoor

namespace Go.Proofs.YtehhgogmbpdpbaaGreatDoor
open Go.RowKit Go.Maps Go.ChangeMaps Go.MapKept
set_option linter.unusedVariables false

/-- How a pointer to a whole block reads here. -/
def RP : Value → Option (DataW Unit × List MemPlace)
  | .pointer (some a) => if a = ⟨a.block, 0, none⟩ then some (.lit (.int .i64 a.block), []) else none
  | .pointer none => some (.lit (.bool false), [])
  | _ => none
theorem rp_mk (g : Nat) : RP (.pointer (some ⟨g, 0, none⟩)) = some (.lit (.int .i64 g), []) := by simp [RP]
theorem rp_some {v : Value} {g : Nat} {ps : List MemPlace} (h : RP v = some (.lit (.int .i64 g), ps)) : v = .pointer (some ⟨g, 0, none⟩) := by
  unfold RP at h
  split at h
  · rename_i a
    split at h
    · rename_i ha
      simp only [Option.some.injEq, Prod.mk.injEq, DataW.lit.injEq, Lit.int.injEq, true_and] at h
      have : a.block = g := by omega
      rw [ha, this]
    · cases h
  · simp at h
  · cases h
theorem rp_none {v : Value} {ps : List MemPlace} (h : RP v = some (.lit (.bool false), ps)) : v = .pointer none := by
  unfold RP at h
  split at h
  · split at h
    · simp at h
    · cases h
  · rfl
  · cases h
def PMap (P : Program) (k : TypeId) (w : World) (b n : Nat) (f : Int → Option Nat) : Prop :=
  ∃ D : DataW Unit, w.ownsMap P k RP b n D ∧ ∀ i : Int, I64 i → has D (.int .i64 i) = (f i).isSome ∧ ∀ g, f i = some g → ∀ z, D.atKey (.int .i64 i) z = .lit (.int .i64 g)
section
variable {P : Program} {k e : TypeId} {w w' : World} {b n : Nat} {f : Int → Option Nat}
theorem PMap.made (w : World) : PMap P k (w.alloc (.map #[] 0)) w.heap.size 0 (fun _ => none) :=
  ⟨.map [], World.ownsMap_made w P k _, fun i _ => ⟨rfl, fun g hg => by cases hg⟩⟩
theorem PMap.lt (h : PMap P k w b n f) : b < w.heap.size := by obtain ⟨D, h, _⟩ := h; exact h.lt
theorem PMap.same (h : PMap P k w b n f) (hk : w'.heap[b]? = w.heap[b]?) : PMap P k w' b n f := by
  obtain ⟨D, ⟨es, clock, hb, F, hs, hD⟩, h2⟩ := h
  exact ⟨D, ⟨es, clock, hk.trans hb, F, hs, hD⟩, h2⟩
theorem PMap.up (h : PMap P k w b n f) (u : Up w w') : PMap P k w' b n f := h.same (u.block b h.lt)
theorem PMap.drew (h : PMap P k w b n f) : PMap P k w.drew b n f := h
theorem PMap.but {g : Nat} (h : PMap P k w b n f) (u : But g w w') (hg : b ≠ g) : PMap P k w' b n f := h.same (u.block b hg)
theorem PMap.ne (h : PMap P k w b n f) {g : Nat} {t : TypeId} {C : Array Value} (hk : Bk w g t C) : g ≠ b := by
  rintro rfl
  obtain ⟨D, ⟨es, clock, hb, _⟩, _⟩ := h
  unfold Bk at hk
  rw [hk] at hb
  cases hb
def ptrOf : Option Nat → Value
  | some g => .pointer (some ⟨g, 0, none⟩)
  | none => .pointer none
theorem PMap.val {D : DataW Unit} (hD : ∀ i : Int, I64 i → has D (.int .i64 i) = (f i).isSome ∧ ∀ g, f i = some g → ∀ z, D.atKey (.int .i64 i) z = .lit (.int .i64 g)) {i : Int} (hi : I64 i) {v : Value} {ps : List MemPlace} (hv : RP v = some (D.atKey (.int .i64 i) (.lit (.bool false)), ps)) : v = ptrOf (f i) := by
  obtain ⟨h1, h2⟩ := hD i hi
  cases q : f i with
  | none =>
    rw [q] at h1
    rw [atKey_of_not_has h1] at hv
    exact rp_none hv
  | some g =>
    rw [h2 g q] at hv
    exact rp_some hv
theorem PMap.look {t : TypeId} (h : PMap P k w b n f) (hk : P.underlying k = some (.int .i64)) (ht : P.underlying t = some (.map k e)) (hz : (zeroValue e).run P w = .ok (.pointer none) w) {i : Int} (hi : I64 i) :
    (Instr.lookup t (.map (some b)) (.int .i64 i) false).run P w = .ok (ptrOf (f i)) w := by
  obtain ⟨D, ho, hf⟩ := h
  obtain ⟨v, ps, hrun, hv⟩ := ho.lookup (int_keyed hk) ht hz (zd := .lit (.bool false)) (zp := []) rfl (keyOf_int_mk hk (i64_wf hi))
  rw [hrun, PMap.val hf hi hv]
theorem but_of_turned {w w' : World} {b : Nat} (h : w.mapTurned w' b) : But b w w' := by
  obtain ⟨es, clock, es', clock', hb, rfl⟩ := h
  exact ⟨rfl, rfl, rfl, by simp [setBlock], fun i hi => heap_setBlock_other hb _ hi⟩
theorem PMap.put {t : TypeId} (h : PMap P k w b n f) (hk : P.underlying k = some (.int .i64)) (ht : P.underlying t = some (.map k e)) (hn : n < maxLen) {i : Int} (hi : I64 i) (g : Nat) :
    ∃ w', (Instr.mapUpdate t (.map (some b)) (.int .i64 i) (.pointer (some ⟨g, 0, none⟩))).run P w = .ok () w' ∧ PMap P k w' b (n + 1) (fun j => if j = i then some g else f j) ∧ But b w w' := by
  obtain ⟨D, ho, hf⟩ := h
  have hm := ho.isMap
  obtain ⟨w', hrun, ho', hg⟩ := ho.store (int_keyed hk) ht hn (keyOf_int_mk hk (i64_wf hi)) (rp_mk g)
  refine ⟨w', hrun, ⟨_, ho', fun j hj => ?_⟩, but_of_turned hg⟩
  by_cases e : j = i
  · subst e
    dsimp only
    rw [if_pos rfl]
    refine ⟨has_put_same hm (by simp [WideAt.IsKeyLit]) _, fun g' hg' z => ?_⟩
    cases hg'
    exact atKey_put_same hm (by simp [WideAt.IsKeyLit]) _ _
  · dsimp only
    rw [if_neg e, has_put_other (by simpa using e)]
    refine ⟨(hf j hj).1, fun g' hg' z => ?_⟩
    rw [atKey_put_other (by simpa using e)]
    exact (hf j hj).2 g' hg' z
end
/-- Block b is a set: it holds just the numbers of l, each once in l. -/
def MSet (P : Program) (k e : TypeId) (w : World) (b : Nat) (l : List Int) : Prop :=
  l.Nodup ∧ ∃ D : DataW Unit, w.ownsMap P k (plainElem P e) b l.length D ∧ Maps.size D = l.length ∧ ∀ i : Int, I64 i → has D (.int .i64 i) = l.contains i ∧ D.atKey (.int .i64 i) (.lit (.bool false)) = .lit (.bool (l.contains i))
section
variable {P : Program} {k e : TypeId} {w w' : World} {b : Nat} {l : List Int}
theorem MSet.made (w : World) : MSet P k e (w.alloc (.map #[] 0)) w.heap.size [] :=
  ⟨List.nodup_nil, .map [], World.ownsMap_made w P k _, rfl, fun i _ => ⟨rfl, by simp [DataW.atKey]⟩⟩
theorem MSet.lt (h : MSet P k e w b l) : b < w.heap.size := by obtain ⟨_, D, h, _⟩ := h; exact h.lt
theorem MSet.same (h : MSet P k e w b l) (hk : w'.heap[b]? = w.heap[b]?) : MSet P k e w' b l := by
  obtain ⟨h0, D, ⟨es, clock, hb, F, hs, hD⟩, h2⟩ := h
  exact ⟨h0, D, ⟨es, clock, hk.trans hb, F, hs, hD⟩, h2⟩
theorem MSet.up (h : MSet P k e w b l) (u : Up w w') : MSet P k e w' b l := h.same (u.block b h.lt)
theorem MSet.drew (h : MSet P k e w b l) : MSet P k e w.drew b l := h
theorem MSet.ne (h : MSet P k e w b l) {g : Nat} {t : TypeId} {C : Array Value} (hk : Bk w g t C) : g ≠ b := by
  rintro rfl
  obtain ⟨_, D, ⟨es, clock, hb, _⟩, _⟩ := h
  unfold Bk at hk
  rw [hk] at hb
  cases hb
theorem MSet.but {g : Nat} (h : MSet P k e w b l) (u : But g w w') (hg : b ≠ g) : MSet P k e w' b l := h.same (u.block b hg)
theorem MSet.look {t : TypeId} (h : MSet P k e w b l) (hk : P.underlying k = some (.int .i64)) (ht : P.underlying t = some (.map k e)) (he : P.underlying e = some .bool) (hz : (zeroValue e).run P w = .ok (.bool false) w) {i : Int} (hi : I64 i) :
    (Instr.lookup t (.map (some b)) (.int .i64 i) false).run P w = .ok (.bool (l.contains i)) w := by
  obtain ⟨_, D, ho, _, hf⟩ := h
  obtain ⟨v, ps, hrun, hv⟩ := ho.lookup (int_keyed hk) ht hz (plainElem_bool he false) (keyOf_int_mk hk (i64_wf hi))
  obtain ⟨x, rfl, hx⟩ := plainElem_bool_inv he hv
  rw [(hf i hi).2] at hx
  simp only [Prod.mk.injEq, DataW.lit.injEq, Lit.bool.injEq] at hx
  rw [hrun, hx.1]
theorem MSet.len {t : TypeId} (h : MSet P k e w b l) (ht : P.underlying t = some (.map k e)) (ty : TypeId) : (Builtin.len_ #[t] ty #[.map (some b)]).run P w = .ok (.int .i64 l.length) w := by
  obtain ⟨_, D, ho, hs, _⟩ := h
  rw [ho.len ht, hs]
theorem MSet.add {t : TypeId} (h : MSet P k e w b l) (hk : P.underlying k = some (.int .i64)) (ht : P.underlying t = some (.map k e)) (he : P.underlying e = some .bool) (hn : l.length < maxLen) {i : Int} (hi : I64 i) (hni : l.contains i = false) :
    ∃ w', (Instr.mapUpdate t (.map (some b)) (.int .i64 i) (.bool true)).run P w = .ok () w' ∧ MSet P k e w' b (l ++ [i]) ∧ But b w w' := by
  obtain ⟨h0, D, ho, hs, hf⟩ := h
  have hm := ho.isMap
  have hT := ho.tidy (int_keyed hk)
  obtain ⟨w', hrun, ho', hg⟩ := ho.store (int_keyed hk) ht hn (keyOf_int_mk hk (i64_wf hi)) (plainElem_bool he true)
  refine ⟨w', hrun, ⟨?_, _, by rw [List.length_append]; exact ho', ?_, fun j hj => ?_⟩, but_of_turned hg⟩
  · refine List.nodup_append.2 ⟨h0, by simp, ?_⟩
    rintro a ha c hc rfl
    obtain rfl : a = i := by simpa using hc
    simp at hni
    exact hni ha
  · rw [size_put hT, (hf i hi).1, hni, hs, List.length_append]
    rfl
  · by_cases e : j = i
    · subst e
      have hc : (l ++ [j]).contains j = true := by simp
      rw [hc, atKey_put_same hm (by simp [WideAt.IsKeyLit])]
      exact ⟨has_put_same hm (by simp [WideAt.IsKeyLit]) _, rfl⟩
    · have hc : (l ++ [i]).contains j = l.contains j := by
        rw [Bool.eq_iff_iff]
        simp [e]
      rw [hc, has_put_other (by simpa using e), atKey_put_other (by simpa using e)]
      exact hf j hj
end
end Go.Proofs.YtehhgogmbpdpbaaGreatDoor

namespace Go.Proofs.YtehhgogmbpdpbaaGreatDoor
open Go.RowKit
set_option linter.unusedVariables false
set_option linter.unusedSimpArgs false

/-- The pages of x by their ids: map pb of the block tb, all of them in lo .. hi. -/
def PagesR (w : World) (lo hi tb : Nat) (x : TBtree) : Prop :=
  ∃ pb n f, Bk w tb 171 #[.int .i64 x.1, .map (some pb)] ∧ PMap Tryz.prog 2 w pb n f ∧ n ≤ x.2.length ∧ lo ≤ tb ∧ tb < hi ∧ lo ≤ pb ∧ pb < hi ∧
    ∀ id, (pgAt x id = none → f id = none) ∧ ∀ p, pgAt x id = some p → ∃ g cs, f id = some g ∧ pb < g ∧ g < hi ∧ Bk w g 85 cs.toArray ∧ shPage.rep w (pb + 1) hi cs p
theorem PagesR.up {w w' : World} {lo hi tb : Nat} {x : TBtree} (h : PagesR w lo hi tb x) (u : Up w w') (hhi : hi ≤ w.heap.size) : PagesR w' lo hi tb x := by
  obtain ⟨pb, n, f, h1, h2, h3, h4, h5, h6, h7, h8⟩ := h
  refine ⟨pb, n, f, h1.up u, h2.up u, h3, h4, h5, h6, h7, fun id => ⟨(h8 id).1, fun p hp => ?_⟩⟩
  obtain ⟨g, cs, q1, q2, q3, q4, q5⟩ := (h8 id).2 p hp
  exact ⟨g, cs, q1, q2, q3, q4.up u, good_Page.keep q5 (u.keeps hhi)⟩
theorem PagesR.but {w w' : World} {lo hi tb g : Nat} {x : TBtree} (h : PagesR w lo hi tb x) (u : But g w w') (hg : hi ≤ g) : PagesR w' lo hi tb x := by
  obtain ⟨pb, n, f, h1, h2, h3, h4, h5, h6, h7, h8⟩ := h
  refine ⟨pb, n, f, h1.butM u (by omega), h2.but u (by omega), h3, h4, h5, h6, h7, fun id => ⟨(h8 id).1, fun p hp => ?_⟩⟩
  obtain ⟨g', cs, q1, q2, q3, q4, q5⟩ := (h8 id).2 p hp
  exact ⟨g', cs, q1, q2, q3, q4.butM u (by omega), good_Page.keep q5 (fun y h1 h2 => u.block y (by omega))⟩
end Go.Proofs.YtehhgogmbpdpbaaGreatDoor

namespace Go.Proofs.YtehhgogmbpdpbaaGreatDoor
open Go.RowKit
set_option linter.unusedVariables false
set_option linter.unusedSimpArgs false

def depV : Option Nat → Int
  | none => -1
  | some d => (d : Int) - 1
/-- The walker's memory: pages, what was met, the depth of the leaves. -/
structure WalkR (w : World) (lo hi tb sb wb : Nat) (x : TBtree) (s : TWalk) : Prop where
  pg : PagesR w lo hi tb x
  h1 : hi ≤ sb
  h2 : hi ≤ wb
  h3 : sb ≠ wb
  kw : Bk w wb 167 #[.pointer (some ⟨tb, 0, none⟩), .map (some sb), .int .i64 (depV s.2)]
  ks : MSet Tryz.prog 2 4 w sb s.1
  ok : MetOk x s.1
  dk : ∀ d, s.2 = some d → 1 ≤ d
def WalkE (r : Option TWalk) (lo hi tb sb wb : Nat) (x : TBtree) (s : TWalk) (w : World) (e : Ending) (w' : World) : Prop :=
  e = .returned (.bool r.isSome) ∧ Only [sb, wb] w w' ∧ ∀ t, r = some t → WalkR w' lo hi tb sb wb x t ∧ s.1 <+: t.1
theorem WalkR.up {w w' : World} {lo hi tb sb wb : Nat} {x : TBtree} {s : TWalk} (h : WalkR w lo hi tb sb wb x s) (u : Up w w') : WalkR w' lo hi tb sb wb x s :=
  ⟨h.pg.up u (by have := h.kw.lt; have := h.h2; omega), h.h1, h.h2, h.h3, h.kw.up u, h.ks.up u, h.ok, h.dk⟩
end Go.Proofs.YtehhgogmbpdpbaaGreatDoor

namespace Go.Proofs.YtehhgogmbpdpbaaGreatDoor
open Go.RowKit
set_option linter.unusedVariables false
set_option linter.unusedSimpArgs false

theorem WalkR.depth {w : World} {lo hi tb sb wb : Nat} {x : TBtree} {s : TWalk} {far : Nat} {D : Int} (h : WalkR w lo hi tb sb wb x s) (hD : Hid (D = (far : Int) - 1)) (hf : 1 ≤ far) : WalkR (w.setCell ⟨wb, 2, none⟩ (.int .i64 D)) lo hi tb sb wb x (s.1, some far) := by
  have b := But.set w wb 2 (.int .i64 D)
  refine ⟨h.pg.but b h.h2, h.h1, h.h2, h.h3, ?_, h.ks.but b h.h3, h.ok, fun d hd => by cases hd; exact hf⟩
  have := h.kw.set 2 (.int .i64 D)
  rw [hD.out] at this ⊢
  exact this
theorem WalkE.mk {r : Option TWalk} {b : Bool} {lo hi tb sb wb : Nat} {x : TBtree} {s : TWalk} {w w' : World} (h1 : Hid (r.isSome = b)) (h2 : Only [sb, wb] w w') (h3 : ∀ t, r = some t → WalkR w' lo hi tb sb wb x t ∧ s.1 <+: t.1) : WalkE r lo hi tb sb wb x s w (.returned (.bool b)) w' := ⟨by rw [h1.out], h2, h3⟩
theorem WalkE.no {lo hi tb sb wb : Nat} {x : TBtree} {s : TWalk} {w w' : World} {e : Ending} (h : WalkE none lo hi tb sb wb x s w e w') : e = .returned (.bool false) ∧ Only [sb, wb] w w' := ⟨h.1, h.2.1⟩
theorem WalkE.yes {t : TWalk} {lo hi tb sb wb : Nat} {x : TBtree} {s : TWalk} {w w' : World} {e : Ending} (h : WalkE (some t) lo hi tb sb wb x s w e w') : e = .returned (.bool true) ∧ Only [sb, wb] w w' ∧ WalkR w' lo hi tb sb wb x t ∧ s.1 <+: t.1 := ⟨h.1, h.2.1, h.2.2 t rfl⟩
end Go.Proofs.YtehhgogmbpdpbaaGreatDoor

namespace Go.Proofs.YtehhgogmbpdpbaaGreatDoor
open Go.RowKit
set_option linter.unusedVariables false
set_option linter.unusedSimpArgs false

theorem DownE.mk {r : Option TWalk} {b : Bool} {lo wb : Nat} {A0 : Option Addr} {c0 : Nat} {x : TBtree} {s : TWalk} {bl : List Nat} {w w' : World} (h1 : Hid (r.isSome = b)) (h2 : Only (wb :: bl) w w') (h3 : ∀ t, r = some t → ∃ M cM bl', DownR w' lo wb A0 c0 x t M cM bl' ∧ (∀ y ∈ bl', y ∈ bl ∨ w.heap.size ≤ y)) : DownE r lo wb A0 c0 x s bl w (.returned (.bool b)) w' := ⟨by rw [h1.out], h2, h3⟩
theorem DownE.no {lo wb : Nat} {A0 : Option Addr} {c0 : Nat} {x : TBtree} {s : TWalk} {bl : List Nat} {w w' : World} {e : Ending} (h : DownE none lo wb A0 c0 x s bl w e w') : e = .returned (.bool false) ∧ Only (wb :: bl) w w' := ⟨h.1, h.2.1⟩
theorem DownE.yes {t : TWalk} {lo wb : Nat} {A0 : Option Addr} {c0 : Nat} {x : TBtree} {s : TWalk} {bl : List Nat} {w w' : World} {e : Ending} (h : DownE (some t) lo wb A0 c0 x s bl w e w') : e = .returned (.bool true) ∧ Only (wb :: bl) w w' ∧ ∃ M cM bl', DownR w' lo wb A0 c0 x t M cM bl' ∧ (∀ y ∈ bl', y ∈ bl ∨ w.heap.size ≤ y) := ⟨h.1, h.2.1, h.2.2 t rfl⟩
theorem SO.butD {α : Type} {s : Sh α} (hg : Good s) {w w' : World} {lo g : Nat} {A : Option Addr} {c : Nat} {xs : List α} {bl : List Nat} (h : SO s w lo w.heap.size A c xs bl) (b : But g w w') (hn : g ∉ bl) : SO s w' lo w'.heap.size A c xs bl := by
  rw [b.size]
  exact h.keep hg (fun x hx => b.block x (fun e => hn (e ▸ hx)))
theorem DownR.depth {w : World} {lo wb : Nat} {A0 : Option Addr} {c0 : Nat} {x : TBtree} {s : TWalk} {M : Option Addr} {cM : Nat} {bl : List Nat} {far : Nat} {F : Int} (h : DownR w lo wb A0 c0 x s M cM bl) (hF : Hid (F = (far : Int))) (hf : 1 ≤ far) : DownR (w.setCell ⟨wb, 3, none⟩ (.int .i64 F)) lo wb A0 c0 x (s.1, some far) M cM bl := by
  have b := But.set w wb 3 (.int .i64 F)
  refine ⟨SR.keep good_Slot h.sl (fun y _ h2 => b.block y (by have := h.h1; omega)), h.h1, ?_, h.so.butD good_I b h.hb, h.nd, h.hb, h.ok, fun d hd => by cases hd; exact hf⟩
  have := h.kw.set 3 (.int .i64 F)
  rw [hF.out] at this ⊢
  exact this
end Go.Proofs.YtehhgogmbpdpbaaGreatDoor

namespace Go.Proofs.YtehhgogmbpdpbaaGreatDoor
open Go.RowKit
set_option linter.unusedVariables false

end Go.Proofs.YtehhgogmbpdpbaaGreatDoor

namespace Go.Proofs.YtehhgogmbpdpbaaGreatDoor
open Go.RowKit
set_option linter.unusedVariables false
set_option linter.unusedSimpArgs false

end Go.Proofs.YtehhgogmbpdpbaaGreatDoor

namespace Go.Proofs.YtehhgogmbpdpbaaGreatDoor
open Go.RowKit
set_option linter.unusedVariables false
set_option linter.unusedSimpArgs false

end Go.Proofs.YtehhgogmbpdpbaaGreatDoor

namespace Go.Proofs.YtehhgogmbpdpbaaGreatDoor
open Go.RowKit
set_option linter.unusedVariables false
set_option linter.unusedSimpArgs false

end Go.Proofs.YtehhgogmbpdpbaaGreatDoor

namespace Go.Proofs.YtehhgogmbpdpbaaGreatDoor
open Go.RowKit
set_option linter.unusedVariables false
set_option linter.unusedSimpArgs false

end Go.Proofs.YtehhgogmbpdpbaaGreatDoor

namespace Go.Proofs.YtehhgogmbpdpbaaGreatDoor
open Go.RowKit
set_option linter.unusedVariables false
set_option linter.unusedSimpArgs false

/-- The first k records of a page. -/
def recsTo (p : TPage) (k : Nat) : List TRecord := (List.range k).map (fun j => (p.2.1.getD j ⟨#[]⟩, p.2.2.1.getD j ⟨#[]⟩))
theorem recsTo_succ (p : TPage) (k : Nat) : recsTo p (k + 1) = recsTo p k ++ [(p.2.1.getD k ⟨#[]⟩, p.2.2.1.getD k ⟨#[]⟩)] := by
  unfold recsTo; rw [List.range_succ, List.map_append]; rfl
theorem recsTo_len (p : TPage) (k : Nat) : (recsTo p k).length = k := by unfold recsTo; simp
theorem leaf_kids {p : TPage} (h : pageB p = true) (hl : p.1 = true) : p.2.2.2.length = 0 ∧ p.2.2.1.length = p.2.1.length ∧ p.2.1.length ≤ 6 := by
  unfold pageB at h
  simp only [Bool.and_eq_true] at h
  have h2 := h.2
  rw [if_pos hl] at h2
  simp only [leafB, Bool.and_eq_true, decide_eq_true_eq] at h2
  exact ⟨h2.2, h2.1.1.2, h2.1.1.1⟩
end Go.Proofs.YtehhgogmbpdpbaaGreatDoor
