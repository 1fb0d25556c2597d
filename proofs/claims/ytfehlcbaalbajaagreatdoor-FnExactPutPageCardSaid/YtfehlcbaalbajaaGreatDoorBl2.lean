/-
  strings.Builder at door seats: WriteByte, WriteString, String, off the contracts of the library.
-/
import Derived.Test.YtfehlcbaalbajaaGreatDoorShelf
import Derived.Test.YtfehlcbaalbajaaGreatDoorRep3
import Derived.Shelf.Strings.BuilderK
namespace Go.Proofs.YtfehlcbaalbajaaGreatDoor
open Go.RowKit
set_option linter.unusedVariables false
def brn : Go.Shelf.Ren := { Go.Proofs.Tryz.lays155_ren with f := fun n => if n = 167 then 259 else Go.Proofs.Tryz.lays155_ren.f n }
theorem bl167 : Go.Proofs.Lays.n167 Tryz.prog brn := {
  mixed := Go.Proofs.Tryz.lays155.mixed
  f167 := Tryz.func259.trans (congrArg some (by kernel_rfl))
  f240 := Tryz.func166.trans (congrArg some (by kernel_rfl))
  f276 := Tryz.func192.trans (congrArg some (by kernel_rfl))
  t0 := Go.Proofs.Tryz.lays155.t0
  a0 := Go.Proofs.Tryz.lays155.a0
  z0 := Go.Proofs.Tryz.lays155.z0
  v0 := Go.Proofs.Tryz.lays155.v0
  t4 := Go.Proofs.Tryz.lays155.t4
  a4 := Go.Proofs.Tryz.lays155.a4
  z4 := Go.Proofs.Tryz.lays155.z4
  v4 := Go.Proofs.Tryz.lays155.v4
  t5 := Go.Proofs.Tryz.lays155.t5
  a5 := Go.Proofs.Tryz.lays155.a5
  z5 := Go.Proofs.Tryz.lays155.z5
  v5 := Go.Proofs.Tryz.lays155.v5
  t9 := Go.Proofs.Tryz.lays155.t9
  a9 := Go.Proofs.Tryz.lays155.a9
  z9 := Go.Proofs.Tryz.lays155.z9
  v9 := Go.Proofs.Tryz.lays155.v9
  t20 := Go.Proofs.Tryz.lays155.t20
  a20 := Go.Proofs.Tryz.lays155.a20
  z20 := Go.Proofs.Tryz.lays155.z20
  v20 := Go.Proofs.Tryz.lays155.v20
  t37 := Go.Proofs.Tryz.lays155.t37
  a37 := Go.Proofs.Tryz.lays155.a37
  z37 := Go.Proofs.Tryz.lays155.z37
  v37 := Go.Proofs.Tryz.lays155.v37
  t70 := Go.Proofs.Tryz.lays155.t70
  a70 := Go.Proofs.Tryz.lays155.a70
  z70 := Go.Proofs.Tryz.lays155.z70
  v70 := Go.Proofs.Tryz.lays155.v70
  t72 := Go.Proofs.Tryz.lays155.t72
  a72 := Go.Proofs.Tryz.lays155.a72
  z72 := Go.Proofs.Tryz.lays155.z72
  v72 := Go.Proofs.Tryz.lays155.v72
  t75 := Go.Proofs.Tryz.lays155.t75
  a75 := Go.Proofs.Tryz.lays155.a75
  z75 := Go.Proofs.Tryz.lays155.z75
  v75 := Go.Proofs.Tryz.lays155.v75
  t164 := Go.Proofs.Tryz.lays155.t164
  a164 := Go.Proofs.Tryz.lays155.a164
  z164 := Go.Proofs.Tryz.lays155.z164
  v164 := Go.Proofs.Tryz.lays155.v164 }
theorem bl166 : Go.Proofs.Lays.n166 Tryz.prog brn := {
  mixed := Go.Proofs.Tryz.lays155.mixed
  f166 := Tryz.func123.trans (congrArg some (by kernel_rfl))
  f240 := Tryz.func166.trans (congrArg some (by kernel_rfl))
  f276 := Tryz.func192.trans (congrArg some (by kernel_rfl))
  t0 := Go.Proofs.Tryz.lays155.t0
  a0 := Go.Proofs.Tryz.lays155.a0
  z0 := Go.Proofs.Tryz.lays155.z0
  v0 := Go.Proofs.Tryz.lays155.v0
  t3 := Go.Proofs.Tryz.lays155.t3
  a3 := Go.Proofs.Tryz.lays155.a3
  z3 := Go.Proofs.Tryz.lays155.z3
  v3 := Go.Proofs.Tryz.lays155.v3
  t4 := Go.Proofs.Tryz.lays155.t4
  a4 := Go.Proofs.Tryz.lays155.a4
  z4 := Go.Proofs.Tryz.lays155.z4
  v4 := Go.Proofs.Tryz.lays155.v4
  t9 := Go.Proofs.Tryz.lays155.t9
  a9 := Go.Proofs.Tryz.lays155.a9
  z9 := Go.Proofs.Tryz.lays155.z9
  v9 := Go.Proofs.Tryz.lays155.v9
  t20 := Go.Proofs.Tryz.lays155.t20
  a20 := Go.Proofs.Tryz.lays155.a20
  z20 := Go.Proofs.Tryz.lays155.z20
  v20 := Go.Proofs.Tryz.lays155.v20
  t37 := Go.Proofs.Tryz.lays155.t37
  a37 := Go.Proofs.Tryz.lays155.a37
  z37 := Go.Proofs.Tryz.lays155.z37
  v37 := Go.Proofs.Tryz.lays155.v37
  t70 := Go.Proofs.Tryz.lays155.t70
  a70 := Go.Proofs.Tryz.lays155.a70
  z70 := Go.Proofs.Tryz.lays155.z70
  v70 := Go.Proofs.Tryz.lays155.v70
  t72 := Go.Proofs.Tryz.lays155.t72
  a72 := Go.Proofs.Tryz.lays155.a72
  z72 := Go.Proofs.Tryz.lays155.z72
  v72 := Go.Proofs.Tryz.lays155.v72
  t75 := Go.Proofs.Tryz.lays155.t75
  a75 := Go.Proofs.Tryz.lays155.a75
  z75 := Go.Proofs.Tryz.lays155.z75
  v75 := Go.Proofs.Tryz.lays155.v75
  t164 := Go.Proofs.Tryz.lays155.t164
  a164 := Go.Proofs.Tryz.lays155.a164
  z164 := Go.Proofs.Tryz.lays155.z164
  v164 := Go.Proofs.Tryz.lays155.v164 }
theorem bl169 : Go.Proofs.Lays.n169 Tryz.prog brn := {
  mixed := Go.Proofs.Tryz.lays155.mixed
  f169 := Tryz.func127.trans (congrArg some (by kernel_rfl))
  t0 := Go.Proofs.Tryz.lays155.t0
  a0 := Go.Proofs.Tryz.lays155.a0
  z0 := Go.Proofs.Tryz.lays155.z0
  v0 := Go.Proofs.Tryz.lays155.v0
  t3 := Go.Proofs.Tryz.lays155.t3
  a3 := Go.Proofs.Tryz.lays155.a3
  z3 := Go.Proofs.Tryz.lays155.z3
  v3 := Go.Proofs.Tryz.lays155.v3
  t9 := Go.Proofs.Tryz.lays155.t9
  a9 := Go.Proofs.Tryz.lays155.a9
  z9 := Go.Proofs.Tryz.lays155.z9
  v9 := Go.Proofs.Tryz.lays155.v9
  t37 := Go.Proofs.Tryz.lays155.t37
  a37 := Go.Proofs.Tryz.lays155.a37
  z37 := Go.Proofs.Tryz.lays155.z37
  v37 := Go.Proofs.Tryz.lays155.v37
  t70 := Go.Proofs.Tryz.lays155.t70
  a70 := Go.Proofs.Tryz.lays155.a70
  z70 := Go.Proofs.Tryz.lays155.z70
  v70 := Go.Proofs.Tryz.lays155.v70
  t72 := Go.Proofs.Tryz.lays155.t72
  a72 := Go.Proofs.Tryz.lays155.a72
  z72 := Go.Proofs.Tryz.lays155.z72
  v72 := Go.Proofs.Tryz.lays155.v72
  t127 := Go.Proofs.Tryz.lays155.t127
  a127 := Go.Proofs.Tryz.lays155.a127
  z127 := Go.Proofs.Tryz.lays155.z127
  v127 := Go.Proofs.Tryz.lays155.v127 }
abbrev Bld8 (B b : Nat) (l : List UInt8) (w : World) : Prop := Lib.IsBuilderF 169 5 B b (Lib.byteCells l) w
theorem Up.grown {w w' : World} (u : Up w w') : w.grownBy w' none := ⟨u.os, u.tape, u.output, u.size, fun k hk _ => u.block k hk⟩
theorem heap_lt {w : World} {b : Nat} {o : Obj} (h : w.heap[b]? = some o) : b < w.heap.size := (Array.getElem?_eq_some_iff.1 h).1
theorem at_up {T e : TypeId} {B b : Nat} {p : Value} {bs : List Value} {w w' : World} (h : Lib.BuilderAtF T e B b p bs w) (u : Up w w') : Lib.BuilderAtF T e B b p bs w' := by
  obtain ⟨hB, v, hb, hown, hne⟩ := h
  exact ⟨hB, v, (u.block b (heap_lt hb)).trans hb, hown.kept u.grown (by cases hv : v.ownBlock <;> simp), hne⟩
theorem bld_up {B b : Nat} {l : List UInt8} {w w' : World} (h : Bld8 B b l w) (u : Up w w') : Bld8 B b l w' := h.imp (fun h => at_up h u) (fun h => at_up h u)
theorem bld_new (w : World) (b : Nat) (h : w.heap[b]? = some (.cells #[.pointer none, .slice none 0 0] 169 (0, 0))) : Bld8 b b [] w :=
  .inl ⟨Nat.le_refl _, .slice none 0 0, h, World.ownsRowF_nil _ _ _ _, by simp [Value.ownBlock]⟩
theorem bld_lt {B b : Nat} {l : List UInt8} {w : World} (h : Bld8 B b l w) : b < w.heap.size := by rcases h with ⟨_, v, hb, _⟩ | ⟨_, v, hb, _⟩ <;> exact heap_lt hb
theorem Up.below {a b c : World} {B : Nat} (h : Up a b) (k : Below B b c) (hB : a.heap.size ≤ B) : Up a c := Below.trans h (Below.mono k hB)
theorem Bk.below {w w' : World} {g B : Nat} {t : TypeId} {C : Array Value} (h : Bk w g t C) (k : Below B w w') (hg : g < B) : Bk w' g t C := (k.block g hg).trans h
theorem Bk.others {w w' : World} {g b : Nat} {t e : TypeId} {C : Array Value} (h : Bk w g t C) (k : Lib.OthersKept e (some b) w w') (hg : g ≠ b) (ht : t ≠ e) : Bk w' g t C :=
  k g _ h (by simpa using hg) (fun c fz hc => by injection hc with _ h2 _; exact ht h2)
theorem strCells_eq (s : ByteArray) : Lib.strCells s = Lib.byteCells s.data.toList := rfl
theorem byteCells_app (a b : List UInt8) : Lib.byteCells a ++ Lib.byteCells b = Lib.byteCells (a ++ b) := by simp [Lib.byteCells]
set_option maxRecDepth 100000 in
theorem bex : Builder.Extra Tryz.prog brn := { Go.Proofs.Tryz.Builder_Extra_155 with }
theorem c_WriteByte (B b : Nat) (l : List UInt8) (c : UInt8) (w : World) (h : Bld8 B b l w) (hlen : l.length + 1 ≤ 140737488355328) (hBw : B ≤ w.heap.size) :
    Calls Tryz.prog 259 #[.pointer (some ⟨b, 0, none⟩), .int .u8 (c.toNat : Int)] w fun e w' => e = .returned .nilIface ∧ Bld8 B b (l ++ [c]) w' ∧ Below B w w' ∧ Lib.OthersKept 5 (some b) w w' :=
  (Go.Proofs.Any.Builder_WriteByte_k bl167 bex B b (Lib.byteCells l) (c.toNat : Int) w h (by rw [Lib.byteCells_length]; exact hlen) hBw).mono fun e w' ⟨he, hb, hk, ho⟩ => ⟨he, .inr (by
    have e1 : Lib.byteCells l ++ [Value.int .u8 (c.toNat : Int)] = Lib.byteCells (l ++ [c]) := by simp [Lib.byteCells]
    rw [e1] at hb; exact hb), hk, ho⟩
theorem c_WriteString (B b : Nat) (l : List UInt8) (s : ByteArray) (w : World) (h : Bld8 B b l w) (hlen : l.length + s.size ≤ 140737488355328) (hBw : B ≤ w.heap.size) :
    Calls Tryz.prog 123 #[.pointer (some ⟨b, 0, none⟩), .string s] w fun e w' => e = .returned (.tuple #[.int .i64 s.size, .nilIface]) ∧ Bld8 B b (l ++ s.data.toList) w' ∧ Below B w w' ∧ Lib.OthersKept 5 (some b) w w' :=
  (Go.Proofs.Any.Builder_WriteString_k bl166 bex B b (Lib.byteCells l) s w h (by rw [Lib.byteCells_length]; exact hlen) hBw).mono fun e w' ⟨he, hb, hk, ho⟩ => ⟨he, .inr (by rw [strCells_eq, byteCells_app] at hb; exact hb), hk, ho⟩
theorem c_BString (B b : Nat) (l : List UInt8) (w : World) (h : Bld8 B b l w) (hBw : B ≤ w.heap.size) :
    Calls Tryz.prog 127 #[.pointer (some ⟨b, 0, none⟩)] w fun e w' => e = .returned (.string ⟨l.toArray⟩) ∧ Below B w w' :=
  (Go.Proofs.Any.Builder_String_any_k bl169 bex B b l w h hBw).mono fun e w' ⟨he, _, hk, _⟩ => ⟨he, hk⟩
end Go.Proofs.YtfehlcbaalbajaaGreatDoor
