/-
  strings.Builder: WriteString and String, off the contracts of the library.
-/
import Derived.Test.YtafabcabffeikaaShelf
import Derived.Test.YtafabcabffeikaaRep3
import Derived.Shelf.Strings.BuilderK
namespace Go.Proofs.Ytafabcabffeikaa
open Go.RowKit
set_option linter.unusedVariables false
theorem lays166 : Go.Proofs.Lays.n166 Try.prog Go.Proofs.Try.lays105_ren := {
  mixed := Go.Proofs.Try.lays105.mixed
  f166 := Go.Proofs.Try.lays105.f166
  f240 := Go.Proofs.Try.lays105.f240
  f276 := Go.Proofs.Try.lays105.f276
  t0 := Go.Proofs.Try.lays105.t0
  a0 := Go.Proofs.Try.lays105.a0
  z0 := Go.Proofs.Try.lays105.z0
  v0 := Go.Proofs.Try.lays105.v0
  t3 := Go.Proofs.Try.lays105.t3
  a3 := Go.Proofs.Try.lays105.a3
  z3 := Go.Proofs.Try.lays105.z3
  v3 := Go.Proofs.Try.lays105.v3
  t4 := Go.Proofs.Try.lays105.t4
  a4 := Go.Proofs.Try.lays105.a4
  z4 := Go.Proofs.Try.lays105.z4
  v4 := Go.Proofs.Try.lays105.v4
  t9 := Go.Proofs.Try.lays105.t9
  a9 := Go.Proofs.Try.lays105.a9
  z9 := Go.Proofs.Try.lays105.z9
  v9 := Go.Proofs.Try.lays105.v9
  t20 := Go.Proofs.Try.lays105.t20
  a20 := Go.Proofs.Try.lays105.a20
  z20 := Go.Proofs.Try.lays105.z20
  v20 := Go.Proofs.Try.lays105.v20
  t37 := Go.Proofs.Try.lays105.t37
  a37 := Go.Proofs.Try.lays105.a37
  z37 := Go.Proofs.Try.lays105.z37
  v37 := Go.Proofs.Try.lays105.v37
  t70 := Go.Proofs.Try.lays105.t70
  a70 := Go.Proofs.Try.lays105.a70
  z70 := Go.Proofs.Try.lays105.z70
  v70 := Go.Proofs.Try.lays105.v70
  t72 := Go.Proofs.Try.lays105.t72
  a72 := Go.Proofs.Try.lays105.a72
  z72 := Go.Proofs.Try.lays105.z72
  v72 := Go.Proofs.Try.lays105.v72
  t75 := Go.Proofs.Try.lays105.t75
  a75 := Go.Proofs.Try.lays105.a75
  z75 := Go.Proofs.Try.lays105.z75
  v75 := Go.Proofs.Try.lays105.v75
  t164 := Go.Proofs.Try.lays105.t164
  a164 := Go.Proofs.Try.lays105.a164
  z164 := Go.Proofs.Try.lays105.z164
  v164 := Go.Proofs.Try.lays105.v164 }
theorem lays169 : Go.Proofs.Lays.n169 Try.prog Go.Proofs.Try.lays105_ren := {
  mixed := Go.Proofs.Try.lays105.mixed
  f169 := Go.Proofs.Try.lays105.f169
  t0 := Go.Proofs.Try.lays105.t0
  a0 := Go.Proofs.Try.lays105.a0
  z0 := Go.Proofs.Try.lays105.z0
  v0 := Go.Proofs.Try.lays105.v0
  t3 := Go.Proofs.Try.lays105.t3
  a3 := Go.Proofs.Try.lays105.a3
  z3 := Go.Proofs.Try.lays105.z3
  v3 := Go.Proofs.Try.lays105.v3
  t9 := Go.Proofs.Try.lays105.t9
  a9 := Go.Proofs.Try.lays105.a9
  z9 := Go.Proofs.Try.lays105.z9
  v9 := Go.Proofs.Try.lays105.v9
  t37 := Go.Proofs.Try.lays105.t37
  a37 := Go.Proofs.Try.lays105.a37
  z37 := Go.Proofs.Try.lays105.z37
  v37 := Go.Proofs.Try.lays105.v37
  t70 := Go.Proofs.Try.lays105.t70
  a70 := Go.Proofs.Try.lays105.a70
  z70 := Go.Proofs.Try.lays105.z70
  v70 := Go.Proofs.Try.lays105.v70
  t72 := Go.Proofs.Try.lays105.t72
  a72 := Go.Proofs.Try.lays105.a72
  z72 := Go.Proofs.Try.lays105.z72
  v72 := Go.Proofs.Try.lays105.v72
  t127 := Go.Proofs.Try.lays105.t127
  a127 := Go.Proofs.Try.lays105.a127
  z127 := Go.Proofs.Try.lays105.z127
  v127 := Go.Proofs.Try.lays105.v127 }

abbrev Bld8 (B b : Nat) (l : List UInt8) (w : World) : Prop := Lib.IsBuilderF 125 5 B b (Lib.byteCells l) w
theorem Up.grown {w w' : World} (u : Up w w') : w.grownBy w' none := ⟨u.os, u.tape, u.output, u.size, fun k hk _ => u.block k hk⟩
theorem heap_lt {w : World} {b : Nat} {o : Obj} (h : w.heap[b]? = some o) : b < w.heap.size := (Array.getElem?_eq_some_iff.1 h).1
theorem at_up {T e : TypeId} {B b : Nat} {p : Value} {bs : List Value} {w w' : World} (h : Lib.BuilderAtF T e B b p bs w) (u : Up w w') : Lib.BuilderAtF T e B b p bs w' := by
  obtain ⟨hB, v, hb, hown, hne⟩ := h
  exact ⟨hB, v, (u.block b (heap_lt hb)).trans hb, hown.kept u.grown (by cases hv : v.ownBlock <;> simp), hne⟩
theorem bld_up {B b : Nat} {l : List UInt8} {w w' : World} (h : Bld8 B b l w) (u : Up w w') : Bld8 B b l w' := h.imp (fun h => at_up h u) (fun h => at_up h u)
theorem bld_new (w : World) (b : Nat) (h : w.heap[b]? = some (.cells #[.pointer none, .slice none 0 0] 125 (0, 0))) : Bld8 b b [] w :=
  .inl ⟨Nat.le_refl _, .slice none 0 0, h, World.ownsRowF_nil _ _ _ _, by simp [Value.ownBlock]⟩
theorem bld_lt {B b : Nat} {l : List UInt8} {w : World} (h : Bld8 B b l w) : b < w.heap.size := by rcases h with ⟨_, v, hb, _⟩ | ⟨_, v, hb, _⟩ <;> exact heap_lt hb
theorem Up.below {a b c : World} {B : Nat} (h : Up a b) (k : Below B b c) (hB : a.heap.size ≤ B) : Up a c := Below.trans h (Below.mono k hB)
theorem Bk.below {w w' : World} {g B : Nat} {t : TypeId} {C : Array Value} (h : Bk w g t C) (k : Below B w w') (hg : g < B) : Bk w' g t C := (k.block g hg).trans h
theorem Bk.others {w w' : World} {g b : Nat} {t e : TypeId} {C : Array Value} (h : Bk w g t C) (k : Lib.OthersKept e (some b) w w') (hg : g ≠ b) (ht : t ≠ e) : Bk w' g t C :=
  k g _ h (by simpa using hg) (fun c fz hc => by injection hc with _ h2 _; exact ht h2)
theorem strCells_eq (s : ByteArray) : Lib.strCells s = Lib.byteCells s.data.toList := rfl
theorem byteCells_app (a b : List UInt8) : Lib.byteCells a ++ Lib.byteCells b = Lib.byteCells (a ++ b) := by simp [Lib.byteCells]
theorem c_WriteString (B b : Nat) (l : List UInt8) (s : ByteArray) (w : World) (h : Bld8 B b l w) (hlen : l.length + s.size ≤ 140737488355328) (hBw : B ≤ w.heap.size) :
    Calls Try.prog 87 #[.pointer (some ⟨b, 0, none⟩), .string s] w fun e w' => e = .returned (.tuple #[.int .i64 s.size, .nilIface]) ∧ Bld8 B b (l ++ s.data.toList) w' ∧ Below B w w' ∧ Lib.OthersKept 5 (some b) w w' :=
  (Go.Proofs.Any.Builder_WriteString_k lays166 Go.Proofs.Try.Builder_Extra_105 B b (Lib.byteCells l) s w h (by rw [Lib.byteCells_length]; exact hlen) hBw).mono fun e w' ⟨he, hb, hk, ho⟩ => ⟨he, .inr (by rw [strCells_eq, byteCells_app] at hb; exact hb), hk, ho⟩
theorem c_BString (B b : Nat) (l : List UInt8) (w : World) (h : Bld8 B b l w) (hBw : B ≤ w.heap.size) :
    Calls Try.prog 91 #[.pointer (some ⟨b, 0, none⟩)] w fun e w' => e = .returned (.string ⟨l.toArray⟩) ∧ Below B w w' :=
  (Go.Proofs.Any.Builder_String_any_k lays169 Go.Proofs.Try.Builder_Extra_105 B b l w h hBw).mono fun e w' ⟨he, _, hk, _⟩ => ⟨he, hk⟩
end Go.Proofs.Ytafabcabffeikaa
