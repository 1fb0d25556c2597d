/-
  slices.Insert of one node, wherever there is room or not.
-/
import Derived.Test.YtfehlcbaalbajaaGreatDoorRows
import Derived.Test.YtfehlcbaalbajaaGreatDoorTy
import Derived.Test.YtfehlcbaalbajaaGreatDoorRo
import Derived.Shelf.Spec.SlicesInsert
import Derived.Lib.AppendZerosOnto
import Derived.Lib.Overlaps
namespace Go.Proofs.YtfehlcbaalbajaaGreatDoor
open Go.RowKit
set_option linter.unusedVariables false
set_option linter.unusedSimpArgs false

theorem cinfo_Node : (Tryz.prog.info? 155).map (fun i => (i.zero, i.size, i.bytes)) = some (some (.agg #[.string ⟨#[]⟩, .slice none 0 0, .string ⟨#[]⟩]), 3, 56) := by kernel_rfl
def rowP {α : Type} (s : Sh α) (w : World) (lo : Nat) (xs : List α) (bl b : List Nat) (D : Option Addr) (d : Nat) (bl' : List Nat) (w' : World) : Prop :=
  SO s w' lo w'.heap.size D d xs bl' ∧ bl'.Nodup ∧ (∀ y ∈ bl', y ∈ bl ++ b ∨ w.heap.size ≤ y) ∧ Only bl w w'
/-- What a call leaves that hands back a row made of an owned one (and of what b owns). -/
def RowR {α : Type} (s : Sh α) (w : World) (lo : Nat) (xs : List α) (bl b : List Nat) (e : Ending) (w' : World) : Prop :=
  ∃ D d bl', e = .returned (.slice D xs.length d) ∧ rowP s w lo xs bl b D d bl' w'
theorem RowR.mk {α : Type} {s : Sh α} {w : World} {lo : Nat} {xs : List α} {bl b : List Nat} {w' : World} {D : Option Addr} {d n : Nat} (bl' : List Nat) (hn : xs.length = n) (h : rowP s w lo xs bl b D d bl' w') : RowR s w lo xs bl b (.returned (.slice D n d)) w' := ⟨D, d, bl', by rw [hn], h⟩
theorem ins_nodup {g : Nat} {bls : List (List Nat)} {b : List Nat} (i : Nat) (nd : ((g :: bls.flatten) ++ b).Nodup) : (g :: (bls.take i ++ b :: bls.drop i).flatten).Nodup := by
  have hp : ((g :: bls.flatten) ++ b).Perm (g :: (bls.take i ++ b :: bls.drop i).flatten) := by
    rw [List.cons_append]
    refine List.Perm.cons _ ?_
    rw [List.flatten_append, List.flatten_cons]
    conv => lhs; rw [← List.take_append_drop i bls, List.flatten_append, List.append_assoc]
    exact List.Perm.append_left _ List.perm_append_comm
  exact hp.nodup_iff.1 nd
theorem ins_mem {g : Nat} {bls : List (List Nat)} {b : List Nat} (i : Nat) : ∀ y ∈ (g :: (bls.take i ++ b :: bls.drop i).flatten), y ∈ (g :: bls.flatten) ++ b := by
  intro y hy
  rcases List.mem_cons.1 hy with rfl | hy
  · simp
  · rw [List.flatten_append, List.flatten_cons] at hy
    have e : bls.flatten = (bls.take i).flatten ++ (bls.drop i).flatten := by rw [← List.flatten_append, List.take_append_drop]
    rw [List.cons_append, e]
    simp only [List.mem_append, List.mem_cons] at hy ⊢
    rcases hy with h | h | h <;> simp [h]
theorem run_copy_cellsN {P : Program} (z : Nat) (w : World) (dT sT ty elem : TypeId) (b o dLen dCap : Nat) (a : Addr) (sLen sCap : Nat) (cs : List Value) (n : Nat)
    (hu : P.underlying dT = some (.slice elem)) (hs : (P.info? elem).map (·.size) = some z) (hn : Nat.min sLen dLen = n) (hcl : cs.length = n * z)
    (hsrc : ∀ j v, cs[j]? = some v → w.cell? (a.add j) = some v) (hc : ∀ j, j < cs.length → (w.cell? ⟨b, o + j, none⟩).isSome = true) (hf : ∀ j, j < cs.length → w.frozen? ⟨b, o + j, none⟩ = false) (h1 : ∀ v ∈ cs, v.oneCell' = true) :
    (Builtin.copy_ #[dT, sT] ty #[.slice (some ⟨b, o, none⟩) dLen dCap, .slice (some a) sLen sCap]).run P w = .ok (goInt n) (setCells w b o cs) := by
  have hl := run_loadCells_list (P := P) w a cs hsrc
  have hst := run_storeCells_cells (P := P) b o cs 0 w (by simpa using hc) (by simpa using hf) h1
  rw [setCells_eq] at hst
  rw [hcl] at hl
  cases hq : P.info? elem with
  | none => simp [hq] at hs
  | some i =>
    have hi : i.size = z := by simpa [hq] using hs
    simp [Builtin.copy_, run_underlying hu, Builtin.lenOf, Builtin.firstCells, sizeOf, typeInfo, hq, hi, hn, hl, hst]
theorem addr_add (g off j : Nat) : (⟨g, off, none⟩ : Addr).add j = ⟨g, off + j, none⟩ := by unfold Addr.add; split <;> simp_all
/-- The cells of a row with one element put in. -/
theorem ins_cells {C C' : Array Value} {off i z n : Nat} {olds cs : List Value} (hol : olds.length = n * z) (hcs : cs.length = z) (hi : i ≤ n) (hC : ∀ j, j < olds.length → C[off + j]? = olds[j]?)
    (h1 : ∀ j, j < i * z → C'[off + j]? = C[off + j]?) (h2 : ∀ j, j < z → C'[off + (i * z + j)]? = cs[j]?) (h3 : ∀ j, j < n * z - i * z → C'[off + ((i + 1) * z + j)]? = (olds.drop (i * z))[j]?) :
    ∀ j, j < (olds.take (i * z) ++ (cs ++ olds.drop (i * z))).length → C'[off + j]? = (olds.take (i * z) ++ (cs ++ olds.drop (i * z)))[j]? := by
  intro j hj
  have hiz := Nat.mul_le_mul_right z hi
  have htl : (olds.take (i * z)).length = i * z := by rw [List.length_take]; omega
  simp only [List.length_append, htl, hcs, List.length_drop, hol] at hj
  have hs1 : (i + 1) * z = i * z + z := Nat.succ_mul i z
  by_cases ha : j < i * z
  · rw [h1 j ha, hC j (by omega), List.getElem?_append_left (by omega), List.getElem?_take_of_lt ha]
  · rw [List.getElem?_append_right (by omega), htl]
    by_cases hb : j < i * z + z
    · have e := h2 (j - i * z) (by omega)
      rw [show off + (i * z + (j - i * z)) = off + j by omega] at e
      rw [e, List.getElem?_append_left (by omega)]
    · have e := h3 (j - (i + 1) * z) (by omega)
      rw [show off + ((i + 1) * z + (j - (i + 1) * z)) = off + j by omega] at e
      rw [e, List.getElem?_append_right (by omega), hcs]
      congr 1
      omega

section
variable {lo : Nat} {c vb : Nat} {x : TTree} {y : TNode} {bl b : List Nat} {cs : List Value} {w : World} {i : Nat}
set_option maxHeartbeats 4000000 in
set_option maxRecDepth 100000 in
theorem c_Insert_end {A : Option Addr} (hx : x.length ≤ 1000000) (h : SO shNode w lo w.heap.size A c x bl) (nd : (bl ++ b).Nodup) (hv : Bk w vb 155 cs.toArray) (ho : shNode.own w lo w.heap.size cs y b) (hlo : lo ≤ w.heap.size) :
    Calls Tryz.prog 185 #[.slice A x.length c, .int .i64 (x.length : Int), .slice (some ⟨vb, 0, none⟩) 1 1] w (RowR shNode w lo (x ++ [y]) bl b) := by
  obtain ⟨i0, hi0, hz0, hz1, hz2⟩ := info_parts cinfo_Node
  have hcl := good_Node.len (good_Node.own_rep ho)
  have hones := good_Node.one (good_Node.own_rep ho)
  have hxc := h.1
  have hcm := h.2.1
  unfold maxLen at hcm
  have H := Lib.hid h
  have HO := Lib.hid ho
  clear h ho
  have hnd : (bl ++ [b].flatten).Nodup := by simpa using nd
  have hsrc : Src Tryz.prog i0.size 31 (.slice (some ⟨vb, 0, none⟩) 1 1) 1 cs w := Src.box (t := 155) Tryz.underlying31 hv hones (by rw [hz1]; exact hcl)
  have hx1 : (x.length + 1) * i0.bytes ≤ 140737488355328 := by rw [hz2]; omega
  have hx2 : x.length + 1 ≤ maxLen := by unfold maxLen; omega
  cases A with
  | none =>
    go_enter Tryz.func185, Tryz.ntmps185
    go_wp2_with (first
      | (at_builtin
         refine wpList_app good_Node rfl _ _ _ _ 155 rfl i0 _ Tryz.underlying31 hi0 hz0 hz1 (by rfl) (lo := lo) (xs := x) (ys := [y]) (bl := bl) (bs := [b]) (news := cs) rfl rfl H.out hnd hsrc (Rowed.one good_Node HO.out) hlo hx1 hx2 ?_
         intro D' d' bl' w1 hap))
    go_ret
    exact RowR.mk bl' (by simp) ⟨hap.1, hap.2.1, by simpa using hap.2.2.1, hap.2.2.2⟩
  | some ad =>
    obtain ⟨ab, ao, asp⟩ := ad
    go_enter Tryz.func185, Tryz.ntmps185
    go_wp2_with (first
      | (at_builtin
         refine wpList_app good_Node rfl _ _ _ _ 155 rfl i0 _ Tryz.underlying31 hi0 hz0 hz1 (by rfl) (lo := lo) (xs := x) (ys := [y]) (bl := bl) (bs := [b]) (news := cs) rfl rfl H.out hnd hsrc (Rowed.one good_Node HO.out) hlo hx1 hx2 ?_
         intro D' d' bl' w1 hap))
    all_goals (go_ret; exact RowR.mk bl' (by simp) ⟨hap.1, hap.2.1, by simpa using hap.2.2.1, hap.2.2.2⟩)
set_option maxHeartbeats 4000000 in
set_option maxRecDepth 100000 in
theorem c_Insert_shift {A : Option Addr} (hx : x.length ≤ 1000000) (hi : i < x.length) (hroom : x.length + 1 ≤ c) (h : SO shNode w lo w.heap.size A c x bl) (nd : (bl ++ b).Nodup) (hv : Bk w vb 155 cs.toArray) (ho : shNode.own w lo w.heap.size cs y b) (hvb : vb ∉ bl) (hlo : lo ≤ w.heap.size) :
    Calls Tryz.prog 185 #[.slice A x.length c, .int .i64 (i : Int), .slice (some ⟨vb, 0, none⟩) 1 1] w (RowR shNode w lo (x.take i ++ y :: x.drop i) bl b) := by
  have hcm := h.2.1
  unfold maxLen at hcm
  rcases h.row with ⟨rfl, _⟩ | ⟨g, off, C, tid, bls, olds, rfl, hg1, hg2, hbk, hcap, rfl, hro, hCo⟩
  · simp at hi
  have hcl := good_Node.len (good_Node.own_rep ho)
  have hones := good_Node.one (good_Node.own_rep ho)
  have hxc := h.1
  have hsz : shNode.size = 3 := rfl
  have holl : olds.length = x.length * 3 := hro.2.1
  have h1c := hro.ones good_Node
  rw [hsz] at hcap hcl
  have hgv : vb ≠ g := fun e => hvb (by simp [e])
  have hinfo : (Tryz.prog.info? 155).map (·.size) = some 3 := by
    obtain ⟨i0, hi0, hz0, hz1, hz2⟩ := info_parts cinfo_Node
    rw [hi0]; simp [hz1]
  have hu0 : Tryz.prog.underlying 31 = some (.slice 155) := Tryz.underlying31
  have hzof : ∀ W, (Go.sizeOf 155).run Tryz.prog W = .ok 3 W := fun W => by
    obtain ⟨i0, hi0, hz0, hz1, hz2⟩ := info_parts cinfo_Node
    simp [sizeOf, typeInfo, hi0, hz1]
  have hwlt := hbk.lt
  have hov : ∀ lb cb, (callFunc 207 #[.slice (some ⟨vb, 0, none⟩) 1 1, .slice (some ⟨g, off + (i + 1) * 3, none⟩) lb cb]).run Tryz.prog w = .ok (.value (.bool false)) w := fun lb cb => by
    rw [run_callFunc_extern Tryz.func207 (by kernel_rfl) (by kernel_rfl) (by kernel_rfl) (e := Extern.SlicesOverlaps.overlaps #[31, 31] #[4]) (by kernel_rfl),
      Lib.run_overlaps_apart w 31 4 155 hu0 3 hzof ⟨vb, 0, none⟩ ⟨g, off + (i + 1) * 3, none⟩ 1 1 lb cb hgv 155 tid cs.toArray.size C.size (by unfold Bk at hv; simp [World.shape?, hv]) (by unfold Bk at hbk; simp [World.shape?, hbk]) (by omega) (hv.frozen 0) (hv.frozen _)]
    rfl
  have hs3 : (i + 1) * 3 = i * 3 + 3 := by omega
  have hdl : (olds.drop (i * 3)).length = (x.length - i) * 3 := by rw [List.length_drop, holl]; omega
  have hcell : ∀ k, k < C.size → (w.drew.cell? ⟨g, k, none⟩).isSome = true := fun k hk => by
    rw [hbk.drew.cell, Array.getElem?_eq_getElem hk]; rfl
  have hcp1 : ∀ ty dc sc, (Builtin.copy_ #[31, 31] ty #[.slice (some ⟨g, off + (i + 1) * 3, none⟩) (x.length - i) dc, .slice (some ⟨g, off + i * 3, none⟩) (x.length + 1 - i) sc]).run Tryz.prog w.drew = .ok (goInt (x.length - i : Nat)) (setCells w.drew g (off + (i + 1) * 3) (olds.drop (i * 3))) := fun ty dc sc =>
    run_copy_cellsN 3 w.drew _ _ ty 155 g (off + (i + 1) * 3) (x.length - i) dc ⟨g, off + i * 3, none⟩ (x.length + 1 - i) sc (olds.drop (i * 3)) (x.length - i) hu0 hinfo (by simp only [Nat.min_def]; split <;> omega) hdl
      (fun j v hj => by
        rw [List.getElem?_drop] at hj
        have hjl := (List.getElem?_eq_some_iff.1 hj).1
        rw [addr_add, hbk.drew.cell, Nat.add_assoc, hCo _ hjl]
        exact hj)
      (fun j hj => hcell _ (by omega)) (fun j hj => hbk.drew.frozen _) (fun v hv => h1c v (List.mem_of_mem_drop hv))
  have hbk1 := hbk.drew.sets (olds.drop (i * 3)) (off + (i + 1) * 3)
  have hbut1 := But.sets (g := g) (olds.drop (i * 3)) w.drew (off + (i + 1) * 3)
  obtain ⟨W1, hW1⟩ : ∃ W1, W1 = setCells w.drew g (off + (i + 1) * 3) (olds.drop (i * 3)) := ⟨_, rfl⟩
  have hv1 : Bk W1 vb 155 cs.toArray := by rw [hW1]; exact (hbut1.block vb hgv).trans hv
  rw [← hW1] at hbk1 hbut1 hcp1
  obtain ⟨C1, hC1⟩ : ∃ C1, C1 = putCells C (off + (i + 1) * 3) (olds.drop (i * 3)) := ⟨_, rfl⟩
  rw [← hC1] at hbk1
  have hC1s : C1.size = C.size := by rw [hC1, putCells_size]
  have hcp2 : ∀ ty dc, (Builtin.copy_ #[31, 31] ty #[.slice (some ⟨g, off + i * 3, none⟩) (x.length + 1 - i) dc, .slice (some ⟨vb, 0, none⟩) 1 1]).run Tryz.prog W1 = .ok (goInt 1) (setCells W1 g (off + i * 3) cs) := fun ty dc =>
    run_copy_cellsN 3 W1 _ _ ty 155 g (off + i * 3) (x.length + 1 - i) dc ⟨vb, 0, none⟩ 1 1 cs 1 hu0 hinfo (by simp only [Nat.min_def]; split <;> omega) (by omega)
      (fun j v hj => by rw [addr_add, hv1.cell, Nat.zero_add]; simpa using hj)
      (fun j hj => by rw [hbk1.cell, Array.getElem?_eq_getElem (by omega)]; rfl) (fun j hj => hbk1.frozen _) hones
  have hbk2 := hbk1.sets cs (off + i * 3)
  have hbut2 := hbut1.trans (But.sets (g := g) cs W1 (off + i * 3))
  have hfin : Hid (rowP shNode w lo (x.take i ++ y :: x.drop i) (g :: bls.flatten) b (some ⟨g, off, none⟩) c (g :: (bls.take i ++ b :: bls.drop i).flatten) (setCells W1 g (off + i * 3) cs)) := by
    have hnd := List.nodup_append.1 nd
    have hbl : ∀ y ∈ bls.flatten ++ b, y ≠ g := by
      intro y hy e
      subst e
      rcases List.mem_append.1 hy with hy | hy
      · exact (List.nodup_cons.1 hnd.1).1 hy
      · exact hnd.2.2 y (by simp) y hy rfl
    have hro2 : Rowed shNode w lo w.heap.size (olds.take (i * 3) ++ (cs ++ olds.drop (i * 3))) (x.take i ++ ([y] ++ x.drop i)) (bls.take i ++ ([b] ++ bls.drop i)) :=
      (hro.take (Nat.le_of_lt hi)).append ((Rowed.one good_Node ho).append (hro.drop i))
    have hro3 := hro2.keep (w' := setCells W1 g (off + i * 3) cs) good_Node (fun q hq => by
      refine hbut2.block q (hbl q ?_)
      have := ins_mem i q (List.mem_cons_of_mem g hq)
      rcases List.mem_append.1 this with h | h
      · rcases List.mem_cons.1 h with rfl | h
        · have hm := ins_nodup i nd
          exact absurd hq (List.nodup_cons.1 hm).1
        · exact List.mem_append_left _ h
      · exact List.mem_append_right _ h)
    have hsz2 : (setCells W1 g (off + i * 3) cs).heap.size = w.heap.size := hbut2.size
    refine ⟨?_, ins_nodup i nd, fun q hq => .inl (ins_mem i q hq), ?_⟩
    · rw [hsz2]
      refine SO.of_row (C := putCells C1 (off + i * 3) cs) hg1 hg2 hbk2 (by rw [hsz, putCells_size, hC1s]; exact hcap) (by simp; omega) h.2.1 hro3 ?_
      refine ins_cells (i := i) (z := 3) (n := x.length) holl hcl (Nat.le_of_lt hi) hCo ?_ ?_ ?_
      · intro j hj
        rw [putCells_far _ _ _ _ (.inl (by omega)), hC1, putCells_far _ _ _ _ (.inl (by omega))]
      · intro j hj
        rw [← Nat.add_assoc]
        exact putCells_at cs C1 (off + i * 3) j (by omega) (by omega)
      · intro j hj
        rw [putCells_far _ _ _ _ (.inr (by omega)), hC1, ← Nat.add_assoc]
        exact putCells_at _ C (off + (i + 1) * 3) j (by omega) (by omega)
    · exact (Only.refl _ w).but (show But g w _ from ⟨hbut2.os, hbut2.tape, hbut2.output, hbut2.size, hbut2.block⟩) (by simp)
  have hyl : (x.take i ++ y :: x.drop i).length = x.length + 1 := by simp; omega
  have HOV := Lib.hid hov
  clear hov hbut1 hbut2 hbk1 hbk2 hv1 hro h1c nd ho hv hvb hbk hcell hCo hC1 hC1s hs3 hW1
  have hz2 : ¬ ((i : Int) = (x.length : Int)) := by omega
  have hw1 : IntKind.i64.wrap ((i : Int) + 1) = (i : Int) + 1 := by rw [IntKind.wrap_i64]; omega
  have hb1 : (0 : Int) ≤ (i : Int) + 1 := by omega
  have htn : ((i : Int) + 1).toNat = i + 1 := by omega
  have hb2 : ¬ (c = i + 1) := by omega
  have hb3 : (i : Int) ≤ (x.length : Int) + 1 := by omega
  have hb4 : ¬ (c = i) := by omega
  have hin : i ≤ x.length := by omega
  have mixed : Tryz.prog.follows .mixedOrders = true := by kernel_rfl
  go_enter Tryz.func185, Tryz.ntmps185
  go_wp2_with (simp only [HOV.out])
  go_region_law_o (refine step_copy_runI rfl _ _ 31 31 rfl _ _ (by simp [Act.eval, Act.put]) (by simp [Act.eval, Act.put]) (hcp1 _ _ _) ?_)
  go_wp2_with (at_builtin; refine wpList_copy_runI _ rfl _ _ 31 31 rfl _ _ rfl rfl (hcp2 _ _) ?_)
  go_ret
  exact RowR.mk _ hyl hfin.out
set_option maxHeartbeats 4000000 in
set_option maxRecDepth 100000 in
theorem c_Insert_grow {A : Option Addr} (hx : x.length ≤ 1000000) (hi : i < x.length) (hroom : c < x.length + 1) (h : SO shNode w lo w.heap.size A c x bl) (nd : (bl ++ b).Nodup) (hv : Bk w vb 155 cs.toArray) (ho : shNode.own w lo w.heap.size cs y b) (hlo : lo ≤ w.heap.size) :
    Calls Tryz.prog 185 #[.slice A x.length c, .int .i64 (i : Int), .slice (some ⟨vb, 0, none⟩) 1 1] w (RowR shNode w lo (x.take i ++ y :: x.drop i) bl b) := by
  obtain ⟨i0, hi0, hz0, hz1, hz2⟩ := info_parts cinfo_Node
  have hcm := h.2.1
  unfold maxLen at hcm
  rcases h.row with ⟨rfl, _⟩ | ⟨g, off, C, tid, bls, olds, rfl, hg1, hg2, hbk, hcap, rfl, hro, hCo⟩
  · simp at hi
  have hcl := good_Node.len (good_Node.own_rep ho)
  have hones := good_Node.one (good_Node.own_rep ho)
  have hxc := h.1
  have hsz : shNode.size = 3 := rfl
  have holl : olds.length = x.length * 3 := hro.2.1
  have h1c := hro.ones good_Node
  rw [hsz] at hcap hcl
  have hinfo : (Tryz.prog.info? 155).map (·.size) = some 3 := by rw [hi0]; simp [hz1]
  have hu0 : Tryz.prog.underlying 31 = some (.slice 155) := Tryz.underlying31
  have hwlt := hbk.lt
  have hvlt := hv.lt
  have hin : i ≤ x.length := by omega
  have hkk : (x.length : Int) + 1 - (i : Int) = ((x.length + 1 - i : Nat) : Int) := by omega
  have hik : i + (x.length + 1 - i) = x.length + 1 := by omega
  have htl : (olds.take (i * 3)).length = i * 3 := by rw [List.length_take]; omega
  have hdl : (olds.drop (i * 3)).length = (x.length - i) * 3 := by rw [List.length_drop, holl]; omega
  have hold : (Builtin.firstCells i0.size i (.slice (some ⟨g, off, none⟩) i c)).run Tryz.prog w.drew = .ok (olds.take (i * 3)).toArray w.drew := by
    rw [hz1]
    exact run_firstCells_some (P := Tryz.prog) w.drew 3 i ⟨g, off, none⟩ i c (olds.take (i * 3)) htl (fun j v hj => by
      rw [addr_add, hbk.drew.cell]
      have hjl := (List.getElem?_eq_some_iff.1 hj).1
      rw [htl] at hjl
      rw [List.getElem?_take_of_lt hjl] at hj
      rw [hCo j (by omega)]
      exact hj)
  have hge := grownCap_ge w (x.length + 1) c 155
  have hcmx : grownCap w (x.length + 1) c 155 ≤ maxLen := grownCap_le_maxLen w (x.length + 1) c _ (by unfold maxLen; omega)
  have hrz : ∀ ty, (Builtin.append_ #[31, 3] ty #[.slice (some ⟨g, off, none⟩) i c, .int .i64 ((x.length : Int) + 1 - (i : Int))]).run Tryz.prog w =
      .ok (.slice (some ⟨w.heap.size, 0, none⟩) (x.length + 1) (grownCap w (x.length + 1) c 155)) (w.drew.alloc (.cells ((olds.take (i * 3)).toArray ++ Builtin.zeroCells (Value.agg #[.string ⟨#[]⟩, .slice none 0 0, .string ⟨#[]⟩]).cells (x.length + 1 - i) ++ Builtin.zeroCells (Value.agg #[.string ⟨#[]⟩, .slice none 0 0, .string ⟨#[]⟩]).cells (grownCap w (x.length + 1) c 155 - (x.length + 1))) 155)) := fun ty => by
    have h := Lib.run_append_grow_zeros (P := Tryz.prog) w 31 3 ty 155 i0 _ .i64 .i64 hu0 Tryz.underlying3 hi0 hz0 (some ⟨g, off, none⟩) i c (olds.take (i * 3)) hold (x.length + 1 - i) (by omega) (by omega) (by omega) (by omega) (by rw [hz2]; omega) (by rw [hz2, hik]; exact growslice_fits (by omega) (by omega))
    rw [hik] at h
    rw [hkk]
    exact h
  obtain ⟨G, hG⟩ : ∃ G, G = grownCap w (x.length + 1) c 155 := ⟨_, rfl⟩
  obtain ⟨ROW, hROW⟩ : ∃ ROW : Array Value, ROW = (olds.take (i * 3)).toArray ++ Builtin.zeroCells (Value.agg #[.string ⟨#[]⟩, .slice none 0 0, .string ⟨#[]⟩]).cells (x.length + 1 - i) ++ Builtin.zeroCells (Value.agg #[.string ⟨#[]⟩, .slice none 0 0, .string ⟨#[]⟩]).cells (G - (x.length + 1)) := ⟨_, rfl⟩
  rw [← hG] at hrz hge hcmx
  rw [← hROW] at hrz
  have hRs : ROW.size = G * 3 := by
    rw [hROW]
    simp only [Array.size_append, size_zeroCells, List.size_toArray, htl]
    have : (Value.agg #[.string ⟨#[]⟩, .slice none 0 0, .string ⟨#[]⟩]).cells.size = 3 := rfl
    rw [this]
    omega
  have hR0 : ∀ j, j < i * 3 → ROW[j]? = olds[j]? := fun j hj => by
    rw [hROW, Array.append_assoc, Array.getElem?_append_left (by simp [htl]; exact hj)]
    simp only [List.getElem?_toArray]
    exact List.getElem?_take_of_lt hj
  obtain ⟨W1, hW1⟩ : ∃ W1, W1 = w.drew.alloc (.cells ROW 155) := ⟨_, rfl⟩
  have u1 : Up w W1 := by rw [hW1]; exact (Up.refl w).drew.alloc _
  have k1 : Bk W1 w.heap.size 155 ROW := by rw [hW1]; exact Bk.new w.drew _ _
  rw [← hW1] at hrz
  clear hW1 hROW
  have hv1 := hv.up u1
  have hbk1 := hbk.up u1
  have hG1 : x.length + 1 ≤ G := hge
  have hcpA : ∀ ty dc, (Builtin.copy_ #[31, 31] ty #[.slice (some ⟨w.heap.size, i * 3, none⟩) (x.length + 1 - i) dc, .slice (some ⟨vb, 0, none⟩) 1 1]).run Tryz.prog W1 = .ok (goInt 1) (setCells W1 w.heap.size (i * 3) cs) := fun ty dc =>
    run_copy_cellsN 3 W1 _ _ ty 155 w.heap.size (i * 3) (x.length + 1 - i) dc ⟨vb, 0, none⟩ 1 1 cs 1 hu0 hinfo (by simp only [Nat.min_def]; split <;> omega) (by omega)
      (fun j v hj => by rw [addr_add, hv1.cell, Nat.zero_add]; simpa using hj)
      (fun j hj => by rw [k1.cell, Array.getElem?_eq_getElem (by omega)]; rfl) (fun j hj => k1.frozen _) hones
  have k2 := k1.sets cs (i * 3)
  have hbut2 := But.sets (g := w.heap.size) cs W1 (i * 3)
  obtain ⟨W2, hW2⟩ : ∃ W2, W2 = setCells W1 w.heap.size (i * 3) cs := ⟨_, rfl⟩
  rw [← hW2] at hcpA k2 hbut2
  clear hW2
  have u2 := u1.but hbut2 (Nat.le_refl _)
  have hbk2 : Bk W2.drew g tid C := hbk.up u2.drew
  have hC2s : (putCells ROW (i * 3) cs).size = G * 3 := by rw [putCells_size, hRs]
  have hcpB : ∀ ty dc sc, (Builtin.copy_ #[31, 31] ty #[.slice (some ⟨w.heap.size, (i + 1) * 3, none⟩) (x.length - i) dc, .slice (some ⟨g, off + i * 3, none⟩) (x.length - i) sc]).run Tryz.prog W2.drew = .ok (goInt (x.length - i : Nat)) (setCells W2.drew w.heap.size ((i + 1) * 3) (olds.drop (i * 3))) := fun ty dc sc =>
    run_copy_cellsN 3 W2.drew _ _ ty 155 w.heap.size ((i + 1) * 3) (x.length - i) dc ⟨g, off + i * 3, none⟩ (x.length - i) sc (olds.drop (i * 3)) (x.length - i) hu0 hinfo (by simp) hdl
      (fun j v hj => by
        rw [List.getElem?_drop] at hj
        have hjl := (List.getElem?_eq_some_iff.1 hj).1
        rw [addr_add, hbk2.cell, Nat.add_assoc, hCo _ hjl]
        exact hj)
      (fun j hj => by rw [k2.drew.cell, Array.getElem?_eq_getElem (by omega)]; rfl) (fun j hj => k2.drew.frozen _) (fun v hv => h1c v (List.mem_of_mem_drop hv))
  have k3 := k2.drew.sets (olds.drop (i * 3)) ((i + 1) * 3)
  have hbut3 := But.sets (g := w.heap.size) (olds.drop (i * 3)) W2.drew ((i + 1) * 3)
  obtain ⟨W3, hW3⟩ : ∃ W3, W3 = setCells W2.drew w.heap.size ((i + 1) * 3) (olds.drop (i * 3)) := ⟨_, rfl⟩
  rw [← hW3] at hcpB k3 hbut3
  clear hW3
  have u3 : Up w W3 := u2.drew.but hbut3 (Nat.le_refl _)
  have hfin : Hid (rowP shNode w lo (x.take i ++ y :: x.drop i) (g :: bls.flatten) b (some ⟨w.heap.size, 0, none⟩) G (w.heap.size :: (bls.take i ++ b :: bls.drop i).flatten) W3) := by
    have hnd := List.nodup_append.1 nd
    have hro2 : Rowed shNode w lo w.heap.size (olds.take (i * 3) ++ (cs ++ olds.drop (i * 3))) (x.take i ++ ([y] ++ x.drop i)) (bls.take i ++ ([b] ++ bls.drop i)) :=
      (hro.take (Nat.le_of_lt hi)).append ((Rowed.one good_Node ho).append (hro.drop i))
    have hin2 := hro2.in_ good_Node
    have hro3 := (hro2.keep (w' := W3) good_Node (fun q hq => u3.block q (hin2 q hq).2)).wide good_Node (Nat.le_refl _) u3.size
    have hnd2 : (w.heap.size :: (bls.take i ++ b :: bls.drop i).flatten).Nodup := List.nodup_cons.2 ⟨fun hm => by
      have := (hin2 _ hm).2
      omega, (List.nodup_cons.1 (ins_nodup i nd)).2⟩
    refine ⟨?_, hnd2, fun q hq => ?_, Only.of_up u3⟩
    · refine SO.of_row (off := 0) (C := putCells (putCells ROW (i * 3) cs) ((i + 1) * 3) (olds.drop (i * 3))) hlo k3.lt k3 (by rw [hsz, putCells_size, hC2s]; omega) (by simp; omega) hcmx hro3 ?_
      intro j hj
      rw [Nat.zero_add]
      simp only [List.length_append, htl, hcl, hdl, List.append_eq] at hj
      by_cases ha : j < i * 3
      · rw [putCells_far _ _ _ _ (.inl (by omega)), putCells_far _ _ _ _ (.inl (by omega)), hR0 j ha]
        exact (by rw [List.getElem?_append_left (by rw [htl]; exact ha), List.getElem?_take_of_lt ha])
      · obtain ⟨q, rfl⟩ : ∃ q, j = i * 3 + q := ⟨j - i * 3, by omega⟩
        have e0 : (olds.take (i * 3) ++ (cs ++ olds.drop (i * 3)))[i * 3 + q]? = (cs ++ olds.drop (i * 3))[q]? := by rw [List.getElem?_append_right (by rw [htl]; omega), htl]; congr 1; omega
        rw [e0]
        by_cases hb : q < 3
        · rw [putCells_far _ _ _ _ (.inl (by omega)), putCells_at cs ROW (i * 3) q (by omega) (by omega), List.getElem?_append_left (by omega)]
        · obtain ⟨r, rfl⟩ : ∃ r, q = 3 + r := ⟨q - 3, by omega⟩
          have e := putCells_at (olds.drop (i * 3)) (putCells ROW (i * 3) cs) ((i + 1) * 3) r (by rw [hC2s]; omega) (by omega)
          rw [show i * 3 + (3 + r) = (i + 1) * 3 + r by omega, e, List.getElem?_append_right (by omega), hcl]
          congr 1
          omega
    · rcases List.mem_cons.1 hq with rfl | hq
      · exact .inr (Nat.le_refl _)
      · exact .inl (ins_mem i q (List.mem_cons_of_mem g hq))
  have hyl : (x.take i ++ y :: x.drop i).length = x.length + 1 := by simp; omega
  clear hbut2 hbut3 hbk hbk1 hbk2 hv hv1 hro h1c nd ho hCo hold k1 k2 k3 u1 u2 u3 hR0 hRs hC2s hG hkk hik
  have hz2 : ¬ ((i : Int) = (x.length : Int)) := by omega
  have hz3 : (c : Int) < (x.length : Int) + 1 := by omega
  have hw1 : IntKind.i64.wrap ((i : Int) + 1) = (i : Int) + 1 := by rw [IntKind.wrap_i64]; omega
  have hb1 : (0 : Int) ≤ (i : Int) + 1 := by omega
  have htn : ((i : Int) + 1).toNat = i + 1 := by omega
  have hb3 : (i : Int) ≤ (x.length : Int) := by omega
  have hci : ¬ (c = i) := by omega
  have hGi : ¬ (G = i) := by omega
  have hGim : ¬ (G = i + 1) := by omega
  unfold maxLen at hcmx
  have mixed : Tryz.prog.follows .mixedOrders = true := by kernel_rfl
  go_enter Tryz.func185, Tryz.ntmps185
  go_wp2_with (first
    | (at_builtin; refine Lib.wpList_append_run _ rfl _ _ _ _ rfl _ _ rfl rfl _ _ (hrz _) ?_)
    | (at_builtin; refine wpList_copy_runI _ rfl _ _ 31 31 rfl _ _ rfl rfl (hcpA _ _) ?_))
  go_region_law_o (refine step_copy_runI rfl _ _ 31 31 rfl _ _ (by simp [Act.eval, Act.put]) (by simp [Act.eval, Act.put]) (hcpB _ _ _) ?_)
  go_wp2_with fail
  go_ret
  exact RowR.mk _ hyl hfin.out
/-- slices.Insert of one node. -/
theorem c_InsertNode {A : Option Addr} (hx : x.length ≤ 1000000) (hi : i ≤ x.length) (h : SO shNode w lo w.heap.size A c x bl) (nd : (bl ++ b).Nodup) (hv : Bk w vb 155 cs.toArray) (ho : shNode.own w lo w.heap.size cs y b) (hvb : vb ∉ bl) (hlo : lo ≤ w.heap.size) :
    Calls Tryz.prog 185 #[.slice A x.length c, .int .i64 (i : Int), .slice (some ⟨vb, 0, none⟩) 1 1] w (RowR shNode w lo (x.take i ++ y :: x.drop i) bl b) := by
  rcases Nat.eq_or_lt_of_le hi with rfl | hi
  · have := c_Insert_end hx h nd hv ho hlo
    simpa using this
  · rcases Nat.lt_or_ge c (x.length + 1) with hc | hc
    · exact c_Insert_grow hx hi hc h nd hv ho hlo
    · exact c_Insert_shift hx hi hc h nd hv ho hvb hlo
end
end Go.Proofs.YtfehlcbaalbajaaGreatDoor
