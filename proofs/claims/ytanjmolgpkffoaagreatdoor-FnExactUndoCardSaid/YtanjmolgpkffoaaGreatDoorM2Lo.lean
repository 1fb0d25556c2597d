/-
  slices.Delete of one node.
-/
import Derived.Test.YtanjmolgpkffoaaGreatDoorM2Kf
namespace Go.Proofs.YtanjmolgpkffoaaGreatDoor
open Go.RowKit
set_option linter.unusedVariables false
set_option linter.unusedSimpArgs false

theorem step_append_runI {P : Program} {ops : Array Oper} {o : Oper} {a : Act} {w : World} {K : Act → World → Prop} {Q : Exit → Act → World → Prop} {E : Prop}
    (hg : o.guard = none) (d x : Operand) (dT sT : TypeId) (hop : o.op = Op.call { callee := Callee.builtin Builtin.append, args := #[d, x], argTypes := #[dT, sT] })
    (v u : Value) (hd : a.eval d = v) (hx : a.eval x = u) {v' : Value} {w' : World} (hr : (Builtin.append_ #[dT, sT] o.type #[v, u]).run P w = .ok v' w') (hK : K (a.put o.dst v') w') :
    if Region.wanted o (yielded ops a.tmps) = true then Oper.wp P o a w K Q else E := by
  have hw : Region.wanted o (yielded ops a.tmps) = true := by simp [Region.wanted, hg]
  rw [if_pos hw]
  unfold Oper.wp
  simp [execOp, hop, resolve, invoke, builtin, hd, hx, hr, Result.andThen]
  exact hK
theorem del_sub {bls : List (List Nat)} (i : Nat) : (bls.take i ++ bls.drop (i + 1)).flatten.Sublist bls.flatten := by
  conv => rhs; rw [← List.take_append_drop i bls]
  rw [List.flatten_append, List.flatten_append]
  refine List.Sublist.append (List.Sublist.refl _) ?_
  by_cases h : i < bls.length
  · rw [List.drop_eq_getElem_cons h, List.flatten_cons]
    exact List.sublist_append_right _ _
  · rw [List.drop_eq_nil_of_le (by omega)]
    exact List.nil_sublist _
set_option maxRecDepth 100000 in
set_option maxHeartbeats 8000000 in
theorem c_DeleteNode (A : Option Addr) (c : Nat) (x : TTree) (i : Nat) (hi : i < x.length) (lo : Nat) (bl : List Nat) (w : World) (h : SO shNode w lo w.heap.size A c x bl) (nd : bl.Nodup) :
    Calls Tryz.prog 122 #[.slice A x.length c, .int .i64 (i : Int), .int .i64 ((i : Int) + 1)] w (RowR shNode w lo (x.take i ++ x.drop (i + 1)) bl []) := by
  obtain ⟨i0, hi0, hz0, hz1, hz2⟩ := info_parts cinfo_Node
  have hcm := h.2.1
  unfold maxLen at hcm
  have hxc := h.1
  rcases h.row with ⟨rfl, _⟩ | ⟨g, off, C, tid, bls, olds, rfl, hg1, hg2, hbk, hcap, rfl, hro, hCo⟩
  · simp at hi
  have hsz : shNode.size = 3 := rfl
  have hol : olds.length = x.length * 3 := hro.2.1
  rw [hsz] at hcap
  have h1c := hro.ones good_Node
  have hu0 : Tryz.prog.underlying 30 = some (.slice 91) := Tryz.underlying30
  have hdl : (olds.drop ((i + 1) * 3)).length = (x.length - (i + 1)) * 3 := by rw [List.length_drop, hol]; omega
  obtain ⟨SA, hSA, hsrc0⟩ : ∃ SA : Addr, (if c = i + 1 then some (⟨g, off, none⟩ : Addr) else some ⟨g, off + (i + 1) * 3, none⟩) = some SA ∧ ∀ j u, (olds.drop ((i + 1) * 3))[j]? = some u → w.drew.cell? (SA.add j) = some u := by
    by_cases hc : c = i + 1
    · refine ⟨⟨g, off, none⟩, by simp [hc], fun j u hj => ?_⟩
      have := (List.getElem?_eq_some_iff.1 hj).1
      omega
    · refine ⟨⟨g, off + (i + 1) * 3, none⟩, by simp [hc], fun j u hj => ?_⟩
      rw [List.getElem?_drop] at hj
      have hjl := (List.getElem?_eq_some_iff.1 hj).1
      rw [addr_add, hbk.drew.cell, Nat.add_assoc, hCo _ hjl]
      exact hj
  have hsrc : Src Tryz.prog i0.size 30 (.slice (some SA) (x.length - (i + 1)) (c - (i + 1))) (x.length - (i + 1)) (olds.drop ((i + 1) * 3)) w.drew :=
    Src.ofSlice w.drew hu0 SA (x.length - (i + 1)) (c - (i + 1)) _ (by rw [hz1]; exact hdl) hsrc0 (fun v hv => h1c v (List.mem_of_mem_drop hv))
  have hrA : ∀ ty, (Builtin.append_ #[30, 30] ty #[.slice (some ⟨g, off, none⟩) i c, .slice (some SA) (x.length - (i + 1)) (c - (i + 1))]).run Tryz.prog w.drew = .ok (.slice (some ⟨g, off, none⟩) (i + (x.length - (i + 1))) c) (setCells w.drew g (off + i * 3) (olds.drop ((i + 1) * 3))) := fun ty => by
    have e := run_append_room_src (P := Tryz.prog) w.drew 30 30 ty 91 i0 hu0 hi0 g off i c _ _ _ hsrc (by omega)
      (fun j hj => by rw [hz1, hbk.drew.cell, Array.getElem?_eq_getElem (by omega)]; rfl) (fun j hj => hbk.drew.frozen _)
    rw [hz1, setCells_eq] at e
    exact e
  have hbk1 := hbk.drew.sets (olds.drop ((i + 1) * 3)) (off + i * 3)
  have hbut1 := But.sets (g := g) (olds.drop ((i + 1) * 3)) w.drew (off + i * 3)
  obtain ⟨W1, hW1⟩ : ∃ W1, W1 = setCells w.drew g (off + i * 3) (olds.drop ((i + 1) * 3)) := ⟨_, rfl⟩
  rw [← hW1] at hbk1 hbut1 hrA
  obtain ⟨C1, hC1⟩ : ∃ C1, C1 = putCells C (off + i * 3) (olds.drop ((i + 1) * 3)) := ⟨_, rfl⟩
  rw [← hC1] at hbk1
  have hC1s : C1.size = C.size := by rw [hC1, putCells_size]
  obtain ⟨vs, hvs⟩ : ∃ vs : List Value, vs = (Builtin.zeroCells (Value.agg #[.string ⟨#[]⟩, .slice none 0 0, .string ⟨#[]⟩]).cells (x.length - (i + (x.length - (i + 1))))).toList := ⟨_, rfl⟩
  have hvl : vs.length = (x.length - (i + (x.length - (i + 1)))) * 3 := by
    rw [hvs, Array.length_toList, size_zeroCells]; rfl
  have hv1 : ∀ v ∈ vs, v.oneCell' = true := by
    intro v hv
    rw [hvs] at hv
    simp only [Builtin.zeroCells, Array.toList_map, List.mem_map] at hv
    obtain ⟨a, _, rfl⟩ := hv
    have hm : a % 3 = 0 ∨ a % 3 = 1 ∨ a % 3 = 2 := by omega
    show (((#[Value.string ⟨#[]⟩, .slice none 0 0, .string ⟨#[]⟩] : Array Value)[a % 3]!).oneCell') = true
    rcases hm with h | h | h <;> rw [h] <;> rfl
  have hrB : ∀ ty, (Builtin.clear_ #[30] ty #[.slice (some ⟨g, off + (i + (x.length - (i + 1))) * 3, none⟩) (x.length - (i + (x.length - (i + 1)))) (c - (i + (x.length - (i + 1))))]).run Tryz.prog W1 = .ok (.tuple #[]) (setCells W1 g (off + (i + (x.length - (i + 1))) * 3) vs) := fun ty =>
    run_clear_cells (P := Tryz.prog) W1 30 91 ty i0 _ hu0 hi0 hz0 g (off + (i + (x.length - (i + 1))) * 3) (x.length - (i + (x.length - (i + 1)))) (c - (i + (x.length - (i + 1)))) (by omega) vs hvs
      (fun t ht => by rw [hbk1.cell, Array.getElem?_eq_getElem (by omega)]; rfl) (fun t ht => hbk1.frozen _) hv1
  have hbk2 := hbk1.sets vs (off + (i + (x.length - (i + 1))) * 3)
  have hbut2 := hbut1.trans (But.sets (g := g) vs W1 (off + (i + (x.length - (i + 1))) * 3))
  have hfin : Hid (rowP shNode w lo (x.take i ++ x.drop (i + 1)) (g :: bls.flatten) [] (some ⟨g, off, none⟩) c (g :: (bls.take i ++ bls.drop (i + 1)).flatten) (setCells W1 g (off + (i + (x.length - (i + 1))) * 3) vs)) := by
    have hsub := del_sub (bls := bls) i
    have hgn := (List.nodup_cons.1 nd).1
    have hro2 : Rowed shNode w lo w.heap.size (olds.take (i * 3) ++ olds.drop ((i + 1) * 3)) (x.take i ++ x.drop (i + 1)) (bls.take i ++ bls.drop (i + 1)) := (hro.take (Nat.le_of_lt hi)).append (hro.drop (i + 1))
    have hro3 := hro2.keep (w' := setCells W1 g (off + (i + (x.length - (i + 1))) * 3) vs) good_Node (fun q hq => hbut2.block q (fun e => hgn (by rw [← e]; exact hsub.mem hq)))
    have hsz2 : (setCells W1 g (off + (i + (x.length - (i + 1))) * 3) vs).heap.size = w.heap.size := hbut2.size
    refine ⟨?_, List.nodup_cons.2 ⟨fun hm => hgn (hsub.mem hm), (List.nodup_cons.1 nd).2.sublist hsub⟩, fun q hq => .inl ?_, ?_⟩
    · rw [hsz2]
      refine SO.of_row (C := putCells C1 (off + (i + (x.length - (i + 1))) * 3) vs) hg1 hg2 hbk2 (by rw [hsz, putCells_size, hC1s]; exact hcap) (by simp; omega) h.2.1 hro3 (fun j hj => ?_)
      have htl : (olds.take (i * 3)).length = i * 3 := by rw [List.length_take]; omega
      rw [List.length_append, htl, hdl] at hj
      rw [putCells_far _ _ _ _ (.inl (by omega)), hC1]
      by_cases ha : j < i * 3
      · rw [putCells_far _ _ _ _ (.inl (by omega)), hCo j (by omega), List.getElem?_append_left (by omega), List.getElem?_take_of_lt ha]
      · obtain ⟨r, rfl⟩ : ∃ r, j = i * 3 + r := ⟨j - i * 3, by omega⟩
        have e := putCells_at (olds.drop ((i + 1) * 3)) C (off + i * 3) r (by omega) (by omega)
        rw [← Nat.add_assoc, e, List.getElem?_append_right (by omega), htl]
        congr 1
        omega
    · rcases List.mem_cons.1 hq with rfl | hq
      · simp
      · simp [hsub.mem hq]
    · exact (Only.refl _ w).but (show But g w _ from ⟨hbut2.os, hbut2.tape, hbut2.output, hbut2.size, hbut2.block⟩) (by simp)
  have hyl : (x.take i ++ x.drop (i + 1)).length = i + (x.length - (i + 1)) := by simp; omega
  have HYL := Lib.hid hyl
  obtain ⟨W2, hW2⟩ : ∃ W2, W2 = setCells W1 g (off + (i + (x.length - (i + 1))) * 3) vs := ⟨_, rfl⟩
  rw [← hW2] at hrB hfin
  clear hyl hW2 hW1 hbk2 hbut2 hbut1 hbk1 hC1 hC1s hvs hvl hv1 hsrc hsrc0 hdl hro hCo hbk nd h h1c hol
  have hic : i ≤ c := by omega
  have hjc : i + 1 ≤ c := by omega
  have hij : ¬ ((i : Int) = (i : Int) + 1) := by omega
  have hb1 : (0 : Int) ≤ (i : Int) + 1 := by omega
  have hb2 : (i : Int) + 1 ≤ (x.length : Int) := by omega
  have htn : ((i : Int) + 1).toNat = i + 1 := by omega
  have hb4 : ¬ (c = i + (x.length - (i + 1))) := by omega
  have mixed : Tryz.prog.follows .mixedOrders = true := by kernel_rfl
  go_enter Tryz.func122, Tryz.ntmps122
  go_wp2_with fail
  go_region_law_o (refine step_append_runI rfl _ _ 30 30 rfl _ _ (by simp [Act.eval, Act.put]; first | done | rfl) (by simp [Act.eval, Act.put]; first | done | rfl) (hrA _) ?_)
  go_wp2_with (at_builtin; refine wpList_clear_run _ rfl _ 30 rfl _ rfl (hrB _) ?_)
  go_ret
  exact RowR.mk _ HYL.out hfin.out
/-- What redo leaves: where the code is 0, the tree is the new one. -/
def RdP (lo : Nat) (w : World) (g : Nat) (bl : List Nat) (r : TTree × Int) (e : Ending) (w' : World) : Prop := ∃ y, e = .returned (.int .i64 r.2) ∧ OTp lo w g bl y w' ∧ (r.2 = 0 → y = r.1)
theorem RdP.mk {lo : Nat} {w w' : World} {g : Nat} {bl : List Nat} {r : TTree × Int} {y : TTree} {n : Int} (hn : r.2 = n) (h : OTp lo w g bl y w') (hy : r.2 = 0 → y = r.1) : RdP lo w g bl r (.returned (.int .i64 n)) w' := ⟨y, by rw [hn], h, hy⟩
theorem OTp.upw {w0 w w' : World} {g : Nat} {bl : List Nat} {x : TTree} (h : OTp w0.heap.size w g bl x w') (u : Up w0 w) (hg : w0.heap.size ≤ g) (hb : ∀ y ∈ bl, w0.heap.size ≤ y) : Up w0 w' := by
  obtain ⟨_, _, _, h3⟩ := h
  exact u.only h3 (fun y hy => by rcases List.mem_cons.1 hy with rfl | hy; exact hg; exact hb y hy)
theorem OTp.then {lo : Nat} {w w1 w2 : World} {g : Nat} {y : TTree} {bl bl1 : List Nat} (m : ∀ z ∈ bl1, z ∈ bl ∨ w.heap.size ≤ z) (o : Only (g :: bl) w w1) (k : OTp lo w1 g bl1 y w2) : OTp lo w g bl y w2 := by
  obtain ⟨bl2, k1, k2, k3⟩ := k
  refine ⟨bl2, k1, fun z hz => ?_, ?_⟩
  · rcases k2 z hz with h | h
    · exact m z h
    · exact .inr (Nat.le_trans o.size h)
  · refine ⟨k3.os.trans o.os, k3.tape.trans o.tape, k3.output.trans o.output, Nat.le_trans o.size k3.size, fun i hi hn => (k3.block i (Nat.lt_of_lt_of_le hi o.size) (fun hm => ?_)).trans (o.block i hi hn)⟩
    rcases List.mem_cons.1 hm with rfl | hm
    · exact hn (by simp)
    · rcases m i hm with h | h
      · exact hn (by simp [h])
      · omega
/-- A new row stored behind the pointer. -/
theorem OTp.store {lo : Nat} {w w1 : World} {g : Nat} {y : TTree} {bl : List Nat} {D D0 : Option Addr} {d n n0 c0 : Nat} {bl1 : List Nat} (hn : y.length = n) (hk : Bk w g 32 #[.slice D0 n0 c0]) (hg : g ∉ bl) (h : rowP shNode w lo y bl [] D d bl1 w1) : OTp lo w g bl y (w1.setCell ⟨g, 0, none⟩ (.slice D n d)) := by
  obtain ⟨so1, nd1, mem1, on1⟩ := h
  have hgl := hk.lt
  have hmem : ∀ z ∈ bl1, z ∈ bl ∨ w.heap.size ≤ z := fun z hz => by simpa using mem1 z hz
  have hg1 : g ∉ bl1 := fun hm => by
    rcases hmem g hm with h | h
    · exact hg h
    · omega
  have hbut := But.set w1 g 0 (.slice D n d)
  refine ⟨bl1, ⟨D, d, ?_, ?_, nd1, hg1⟩, hmem, (on1.mono (fun y hy => List.mem_cons_of_mem _ hy)).but hbut (by simp)⟩
  · rw [hn]
    simpa using (hk.only on1 hg).set 0 (.slice D n d)
  · rw [hbut.size]
    exact so1.keep good_Node (fun y hy => hbut.block y (fun e => hg1 (by rw [← e]; exact hy)))
end Go.Proofs.YtanjmolgpkffoaaGreatDoor
