/-
  The records below a page: the program's.
-/
import Derived.Test.YtpjcgglhlmifdaaGreatDoorM1Rn
import Derived.Test.YtpjcgglhlmifdaaGreatDoorM1Bq
namespace Go.Proofs.YtpjcgglhlmifdaaGreatDoor
open Go.RowKit
set_option linter.unusedVariables false
set_option linter.unusedSimpArgs false

/-- The list in box b, all it owns from lo on. -/
def ListR (w : World) (b lo : Nat) (L : List TRecord) : Prop :=
  ∃ D d bl, Bk w b 26 #[.slice D L.length d] ∧ SO shRecord w lo w.heap.size D d L bl ∧ bl.Nodup ∧ b < lo ∧ lo ≤ w.heap.size
/-- Below lo at most block b has turned. -/
structure LW (b lo : Nat) (w w' : World) : Prop where
  os : w'.os = w.os
  tape : w'.tape = w.tape
  output : w'.output = w.output
  size : w.heap.size ≤ w'.heap.size
  block : ∀ k, k < lo → k ≠ b → w'.heap[k]? = w.heap[k]?
theorem LW.refl (b lo : Nat) (w : World) : LW b lo w w := ⟨rfl, rfl, rfl, Nat.le_refl _, fun _ _ _ => rfl⟩
theorem LW.trans {b lo : Nat} {x y z : World} (h : LW b lo x y) (k : LW b lo y z) : LW b lo x z := ⟨k.os.trans h.os, k.tape.trans h.tape, k.output.trans h.output, Nat.le_trans h.size k.size, fun i h1 h2 => (k.block i h1 h2).trans (h.block i h1 h2)⟩
theorem LW.bk {b lo : Nat} {w w' : World} (h : LW b lo w w') {g : Nat} {t : TypeId} {C : Array Value} (k : Bk w g t C) (hg : g < lo) (hb : g ≠ b) : Bk w' g t C := (h.block g hg hb).trans k
theorem PagesR.same {w w' : World} {lo hi tb : Nat} {x : TBtree} (h : PagesR w lo hi tb x) (u : ∀ k, k < hi → w'.heap[k]? = w.heap[k]?) : PagesR w' lo hi tb x := by
  obtain ⟨pb, n, f, h1, h2, h3, h4, h5, h6, h7, h8⟩ := h
  refine ⟨pb, n, f, (u _ h5).trans h1, h2.same (u _ h7), h3, h4, h5, h6, h7, fun id => ⟨(h8 id).1, fun p hp => ?_⟩⟩
  obtain ⟨g', cs, q1, q2, q3, q4, q5⟩ := (h8 id).2 p hp
  exact ⟨g', cs, q1, q2, q3, (u _ q3).trans q4, good_Page.keep q5 (fun y h1 h2 => u y h2)⟩
theorem cinfo_RecI : (Tryz.prog.info? 101).map (fun i => (i.zero, i.size, i.bytes)) = some (some (.agg #[.string ⟨#[]⟩, .string ⟨#[]⟩]), 2, 32) := by kernel_rfl
def VisP (b lo : Nat) (L : List TRecord) (w : World) (e : Ending) (w' : World) : Prop := e = .returned (.tuple #[]) ∧ ListR w' b lo L ∧ LW b lo w w'
set_option maxRecDepth 100000 in
set_option maxHeartbeats 4000000 in
theorem c_visit (b lo : Nat) (L : List TRecord) (k v : ByteArray) (w : World) (hk : k.size ≤ maxLen) (hv : v.size ≤ maxLen) (h : ListR w b lo L) (hl : L.length ≤ 1000) :
    Calls Tryz.prog 97 #[.agg #[.string k, .string v], .pointer (some ⟨b, 0, none⟩)] w (VisP b lo (L ++ [(k, v)]) w) := by
  obtain ⟨i0, hi0, hz0, hz1, hz2⟩ := info_parts cinfo_RecI
  obtain ⟨D, d, bl, kb, so, nd, hb, hlo⟩ := h
  have u1 : Up w ((w.alloc (.cells #[.string k, .string v] 101)).alloc (.cells #[.string k, .string v] 101)) := ((Up.refl _).alloc _).alloc _
  have kq : Bk ((w.alloc (.cells #[.string k, .string v] 101)).alloc (.cells #[.string k, .string v] 101)) (w.heap.size + 1) 101 #[.string k, .string v] := by
    simpa using Bk.new (w.alloc (.cells #[.string k, .string v] 101)) 101 #[.string k, .string v]
  have gb : (w.alloc (.cells #[.string k, .string v] 101)).cell? ⟨b, 0, none⟩ = some (.slice D L.length d) := (kb.alloc _).cell 0
  have hx1 : (L.length + 1) * i0.bytes ≤ 140737488355328 := by rw [hz2]; omega
  have hx2 : L.length + 1 ≤ maxLen := by unfold maxLen; omega
  have hin := so.in_ good_Record
  have kb1 := kb.up u1
  have so1 := so.up good_Record u1
  have ho : shRecord.own ((w.alloc (.cells #[.string k, .string v] 101)).alloc (.cells #[.string k, .string v] 101)) lo ((w.alloc (.cells #[.string k, .string v] 101)).alloc (.cells #[.string k, .string v] 101)).heap.size [.string k, .string v] (k, v) [] := mkORecord (x := (k, v)) hk hv
  have hlo1 := Nat.le_trans hlo u1.size
  have hbn : b ∉ bl := fun hm => by have := (hin _ hm).1; omega
  go_enter Tryz.func97, Tryz.ntmps97
  go_wp2_with (first
    | (at_builtin
       refine wpList_app good_Record rfl _ _ _ _ 101 rfl i0 _ Tryz.underlying26 hi0 hz0 hz1 (by rfl) (lo := lo) (xs := L) (ys := [(k, v)]) (bl := bl) (bs := [[]]) (news := [.string k, .string v]) rfl rfl so1 (by simpa using nd) (Src.box (t := 101) Tryz.underlying26 kq (by simp [Value.oneCell']) (by rw [hz1]; rfl)) (Rowed.one good_Record ho) hlo1 hx1 hx2 ?_
       intro D9 d9 bl9 w9 hap
       obtain ⟨so9, nd9, mem9, on9⟩ := hap
       have kb9 := kb1.only on9 hbn
       have gb9 : w9.cell? ⟨b, 0, none⟩ = some (.slice D L.length d) := kb9.cell 0
       have fb9 := kb9.frozen 0))
  refine bodyPost_end (v := .tuple #[]) (by simp [results, Tryz.results97, go_sem]) (by rfl) ?_
  have bt := But.set w9 b 0 (.slice D9 (L.length + 1) d9)
  have hb9 : ∀ y ∈ bl9, lo ≤ y := fun y hy => (so9.in_ good_Record y hy).1
  have kbE := kb9.set 0 (.slice D9 (L.length + 1) d9)
  refine ⟨rfl, ⟨D9, d9, bl9, ?_, so9.but good_Record bt hb, nd9, hb, by rw [bt.size]; exact Nat.le_trans hlo1 on9.size⟩, ?_⟩
  · rw [List.length_append]
    exact kbE
  · exact ⟨bt.os.trans (on9.os.trans u1.os), bt.tape.trans (on9.tape.trans u1.tape), bt.output.trans (on9.output.trans u1.output), by rw [bt.size]; exact Nat.le_trans u1.size on9.size, fun i hi hne => (bt.block i hne).trans ((on9.block i (by omega) (fun hm => by have := (hin _ hm).1; omega)).trans (u1.block i (by omega)))⟩
theorem eg_visit : ∀ args w, (callFunc 97 args).run Tryz.prog w = .ok (.enter 97 args) w := enters_of Tryz.func97 (by kernel_rfl) rfl
end Go.Proofs.YtpjcgglhlmifdaaGreatDoor
