/-
  NewBtree: the program's and the reference's give one tree in new memory.
-/
import Derived.Test.YtaobkpaefelkkaaLd
import Derived.Test.YtaobkpaefelkkaaLe
namespace Go.Proofs.Ytaobkpaefelkkaa
open Go.RowKit
set_option linter.unusedVariables false

def newBtree : TBtree := (1, [(1, true, [], [], [])])
theorem own_new {w : World} {lo : Nat} {g : Nat} {t : TypeId} (h : Bk w g t #[.int .i64 1, .bool true, .slice none 0 0, .slice none 0 0, .slice none 0 0]) (hlo : lo ≤ g) : shBtree.own w lo w.heap.size [.int .i64 1, .slice (some ⟨g, 0, none⟩) 1 1] newBtree [g] := by
  refine mkOBtree (x := newBtree) (A1 := some ⟨g, 0, none⟩) (c1 := 1) (bl1 := [g]) ⟨by decide, by decide⟩ ⟨by decide, by decide, .inr ⟨g, 0, _, t, [[]], rfl, hlo, h.lt, h, rfl, rfl, fun i hi => ?_⟩⟩
  obtain rfl : i = 0 := by have : i < 1 := hi; omega
  refine ⟨[.int .i64 1, .bool true, .slice none 0 0, .slice none 0 0, .slice none 0 0], [], rfl, rfl, fun j hj => ?_, mkOSlot (x := (1, true, [], [], [])) ⟨by decide, by decide⟩ (SO.nil _ _ _) (SO.nil _ _ _) (SO.nil _ _ _)⟩
  have hj' : j < 5 := hj
  match j, hj' with
  | 0, _ => rfl
  | 1, _ => rfl
  | 2, _ => rfl
  | 3, _ => rfl
  | 4, _ => rfl

set_option maxHeartbeats 1000000 in
theorem ci_NewBtree (w : World) : Calls Try.prog 31 #[] w (ToV shBtree newBtree w) := by
  go_enter Try.func31, Try.ntmps31
  go_wp2_with fail
  refine bodyPost_ret (v := .agg #[.int .i64 1, .slice (some ⟨w.heap.size + 1, 0, none⟩) 1 1]) (by simp [results, Try.results31, go_sem]) rfl ?_
  refine ⟨[.int .i64 1, .slice (some ⟨w.heap.size + 1, 0, none⟩) 1 1], [w.heap.size + 1], rfl, ?_, by simp, ((Up.refl _).alloc _).alloc _⟩
  refine own_new (t := 106) ?_ (by omega)
  simpa using Bk.new (w.alloc (.cells #[.int .i64 1, .slice (some ⟨w.heap.size + 1, 0, none⟩) 1 1] 53)) 106 #[.int .i64 1, .bool true, .slice none 0 0, .slice none 0 0, .slice none 0 0]

set_option maxHeartbeats 1000000 in
theorem cs0_NewBtree (w : World) : Calls Try.prog 30 #[] w (ToV shBtree newBtree w) := by
  go_enter Try.func30, Try.ntmps30
  go_wp2_with fail
  refine bodyPost_ret (v := .agg #[.int .i64 1, .slice (some ⟨w.heap.size + 1, 0, none⟩) 1 1]) (by simp [results, Try.results30, go_sem]) rfl ?_
  refine ⟨[.int .i64 1, .slice (some ⟨w.heap.size + 1, 0, none⟩) 1 1], [w.heap.size + 1], rfl, ?_, by simp, ((Up.refl _).alloc _).alloc _⟩
  refine own_new (t := 106) ?_ (by omega)
  simpa using Bk.new (w.alloc (.cells #[.int .i64 1, .slice (some ⟨w.heap.size + 1, 0, none⟩) 1 1] 53)) 106 #[.int .i64 1, .bool true, .slice none 0 0, .slice none 0 0, .slice none 0 0]

theorem cs_NewBtree (w : World) : Calls Try.prog 30 #[] w (RpV shBtree newBtree w) := (cs0_NewBtree w).mono fun _ _ h => h.rp good_Btree
theorem cbg_NewBtree : (1 : Int) + (mmTBtree.cnt newBtree : Nat) ≤ 1000000000 := by decide
end Go.Proofs.Ytaobkpaefelkkaa
