/-
  The walk over a tree of pages: the reference's.
  What a right tree holds below a page, and the way down to a key (plain).
-/
import Derived.Test.YtehhgogmbpdpbaaGreatDoorM1Bp
import Derived.Test.YtehhgogmbpdpbaaGreatDoorM1A
import Derived.Test.YtehhgogmbpdpbaaGreatDoorM1J
namespace Go.Proofs.YtehhgogmbpdpbaaGreatDoor
open Go.RowKit
set_option linter.unusedVariables false
set_option linter.unusedSimpArgs false

def depW : Option Nat → Int
  | none => 0
  | some d => (d : Int)
theorem Only.then {bl bl1 : List Nat} {a b c : World} (h : Only bl a b) (k : Only bl1 b c) (hs : ∀ y ∈ bl1, y ∈ bl ∨ a.heap.size ≤ y) : Only bl a c :=
  ⟨k.os.trans h.os, k.tape.trans h.tape, k.output.trans h.output, Nat.le_trans h.size k.size, fun i hi hn => (k.block i (Nat.lt_of_lt_of_le hi h.size) (fun hm => by rcases hs i hm with h1 | h1 <;> first | exact hn h1 | omega)).trans (h.block i hi hn)⟩
structure DownR (w : World) (lo wb : Nat) (A0 : Option Addr) (c0 : Nat) (x : TBtree) (s : TWalk) (M : Option Addr) (cM : Nat) (bl : List Nat) : Prop where
  sl : SR shSlot w 0 lo A0 c0 x.2
  h1 : lo ≤ wb
  kw : Bk w wb 148 #[.int .i64 x.1, .slice A0 x.2.length c0, .slice M s.1.length cM, .int .i64 (depW s.2)]
  so : SO shI w lo w.heap.size M cM s.1 bl
  nd : bl.Nodup
  hb : wb ∉ bl
  ok : MetOk x s.1
  dk : ∀ d, s.2 = some d → 1 ≤ d
def DownE (r : Option TWalk) (lo wb : Nat) (A0 : Option Addr) (c0 : Nat) (x : TBtree) (s : TWalk) (bl : List Nat) (w : World) (e : Ending) (w' : World) : Prop :=
  e = .returned (.bool r.isSome) ∧ Only (wb :: bl) w w' ∧ ∀ t, r = some t → ∃ M cM bl', DownR w' lo wb A0 c0 x t M cM bl' ∧ (∀ y ∈ bl', y ∈ bl ∨ w.heap.size ≤ y)
theorem DownR.up {w w' : World} {lo wb : Nat} {A0 : Option Addr} {c0 : Nat} {x : TBtree} {s : TWalk} {M : Option Addr} {cM : Nat} {bl : List Nat} (h : DownR w lo wb A0 c0 x s M cM bl) (u : Up w w') : DownR w' lo wb A0 c0 x s M cM bl :=
  ⟨SR.keep good_Slot h.sl (u.keeps (by have := h.kw.lt; have := h.h1; omega)), h.h1, h.kw.up u, h.so.up good_I u, h.nd, h.hb, h.ok, h.dk⟩
end Go.Proofs.YtehhgogmbpdpbaaGreatDoor

namespace Go.Proofs.YtehhgogmbpdpbaaGreatDoor
open Go.RowKit
set_option linter.unusedVariables false
set_option linter.unusedSimpArgs false

end Go.Proofs.YtehhgogmbpdpbaaGreatDoor
