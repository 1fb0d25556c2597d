/-
  firstSlots.
-/
import Derived.Test.YtgdcdfpnogiciaaUc
namespace Go.Proofs.Ytgdcdfpnogiciaa
open Go.RowKit Go.Shelf Go.Maps Go.ChangeMaps Go.MapKept
attribute [local go_sem] Oper.semAt_some
set_option linter.unusedVariables false
set_option linter.unusedSimpArgs false

theorem VMap.grown {P : Program} {k : TypeId} {w w' : World} {b n : Nat} {L : List Value} {F : Int → Option Value} (h : VMap P k w b n L F) {row : Option Nat} (hg : w.grownBy w' row) (hr : ∀ r, row = some r → r ≠ b) : VMap P k w' b n L F :=
  h.same (hg.block b h.lt (fun e => hr b e.symm rfl))
/-- What firstSlots gives. -/
def FirstP (S : List TSlot) (f : PF) (w : World) (e : Ending) (w' : World) : Prop :=
  ∃ mb n : Nat, e = .returned (.map (some mb)) ∧ VMap Try.prog 2 w' mb n (pageVals S f) (VF S f (cameN S.length S.length)) ∧ n ≤ S.length ∧ w.heap.size ≤ mb ∧ mb < w'.heap.size ∧ Up w w'
theorem mkeep_up {n₀ mb : Nat} {w W0 W : World} (u : Up w W0) (h : MKeep n₀ mb W0 W) (h1 : w.heap.size ≤ n₀) (h2 : w.heap.size ≤ mb) : Up w W :=
  ⟨h.os.trans u.os, h.tape.trans u.tape, h.output.trans u.output, Nat.le_trans u.size h.size, fun i hi => (h.block i (by omega) (by omega)).trans (u.block i hi)⟩
theorem keepsFrom_but {B g : Nat} {W W' : World} (h : But g W W') (hg : g < B) : KeepsFrom B W W' :=
  ⟨by rw [h.size]; exact Nat.le_refl _, fun k o hB hk _ => (h.block k (by omega)).trans hk⟩
abbrev pageTo (S : List TSlot) (f : PF) (x : Nat) : Value := .agg #[.bool (sAt S x).2.1, .slice (f x).1.1 (sAt S x).2.2.1.length (f x).1.2, .slice (f x).2.1.1 (sAt S x).2.2.2.1.length (f x).2.1.2, .slice (f x).2.2.1 (sAt S x).2.2.2.2.length (f x).2.2.2]
set_option maxRecDepth 100000 in
set_option maxHeartbeats 8000000 in
theorem c_firstSlots (r : Int) (A0 : Option Addr) (c0 : Nat) (S : List TSlot) (f : PF) (w : World) (hI : SlotsIn w w.heap.size A0 S f) (hl : S.length ≤ 1048576) :
    Calls Try.prog 29 #[.agg #[.int .i64 r, .slice A0 S.length c0]] w (FirstP S f w) := by
  have hmm := @run_makeMap Try.prog
  refine (callsIn_wide (n := 6)).1 ?_
  refine callsIn_of_wp_marks Try.func29 rfl trivial ?_ rfl
  simp only [Try.ntmps29, List.size_toArray, List.length_cons, List.length_nil, Nat.reduceAdd, Nat.reduceSub, Array.replicate_succ, Array.replicate_zero, List.push_toArray, List.append_toArray, List.nil_append, List.cons_append]
  gi_wp2_with (first | (gi_at_call 46; refine (backwardS_in Fence.wide _ trivial rfl _ _ _ _).mono ?_; rintro e w' ⟨rfl, rfl⟩) | (refine ⟨trivial, ?_⟩; gi_at_call 46; refine (backwardS_in Fence.wide _ trivial rfl _ _ _ _).mono ?_; rintro e w' ⟨rfl, rfl⟩))
  have uu : Up w ((((w.alloc (.cells #[.int .i64 r, .slice A0 S.length c0] 37)).alloc (.map #[] 0)).alloc (.cells #[.map (some (w.heap.size + 1))] 57)).alloc (.cells #[.slice A0 S.length c0] 35)) := ((((Up.refl w).alloc _).alloc _).alloc _).alloc _
  have vm := ((VMap.made (P := Try.prog) (k := 2) (L := pageVals S f) (w.alloc (.cells #[.int .i64 r, .slice A0 S.length c0] 37))).up ((Up.refl _).alloc (.cells #[.map (some (w.heap.size + 1))] 57))).up ((Up.refl _).alloc (.cells #[.slice A0 S.length c0] 35))
  have kB := (Bk.new ((w.alloc (.cells #[.int .i64 r, .slice A0 S.length c0] 37)).alloc (.map #[] 0)) 57 #[.map (some (w.heap.size + 1))]).alloc (.cells #[.slice A0 S.length c0] 35)
  have kS := Bk.new (((w.alloc (.cells #[.int .i64 r, .slice A0 S.length c0] 37)).alloc (.map #[] 0)).alloc (.cells #[.map (some (w.heap.size + 1))] 57)) 35 #[.slice A0 S.length c0]
  have hsz : ((((w.alloc (.cells #[.int .i64 r, .slice A0 S.length c0] 37)).alloc (.map #[] 0)).alloc (.cells #[.map (some (w.heap.size + 1))] 57)).alloc (.cells #[.slice A0 S.length c0] 35)).heap.size = w.heap.size + 1 + 1 + 1 + 1 := by simp
  simp only [World.size_alloc] at vm kB kS
  obtain ⟨W0, hW0⟩ : ∃ W0, ((((w.alloc (.cells #[.int .i64 r, .slice A0 S.length c0] 37)).alloc (.map #[] 0)).alloc (.cells #[.map (some (w.heap.size + 1))] 57)).alloc (.cells #[.slice A0 S.length c0] 35)) = W0 := ⟨_, rfl⟩
  rw [hW0] at uu vm kB kS hsz ⊢
  clear hW0
  have hI0 : SlotsIn W0 w.heap.size A0 S f := ⟨hI.1, fun j hj => by
    obtain ⟨g, off, e, hg, q0, q1, q2, q3, q4, bi, hr⟩ := hI.2 j hj
    have qq : ∀ o v, w.cell? ⟨g, o, none⟩ = some v → W0.cell? ⟨g, o, none⟩ = some v := fun o v hv => (uu.cell (p := ⟨g, o, none⟩) hg).trans hv
    exact ⟨g, off, e, hg, qq _ _ q0, qq _ _ q1, qq _ _ q2, qq _ _ q3, qq _ _ q4, bi, good_Page.keep hr (fun b _ hb => uu.block b hb)⟩⟩
  refine wpIn_rangeFunc_ownH (F := Fence.wide) rfl (by omega) (gf := 64) (lb := #[.pointer (some ⟨w.heap.size + 1 + 1 + 1, 0, none⟩)]) rfl trivial (enters_of Try.func64 (by kernel_rfl) rfl)
    (backS_stops Fence.wide (6 - 1) trivial rfl (by omega) (w.heap.size + 1 + 1 + 1) W0.heap.size w.heap.size (w.heap.size + 1) c0 A0 S f (by omega) W0 (by omega) (by omega) (by omega) (by omega) (Nat.le_refl _) (kS.cell 0) hI0) MKeep.trans (mkeep_b (Nat.le_refl _)) (Below.refl _ _) (fun _ => rfl)
    (fun pre W => VMap Try.prog 2 W (w.heap.size + 1) pre.length (pageVals S f) (VF S f pre) ∧ MKeep W0.heap.size (w.heap.size + 1) W0 W)
    (fun c pre W => False)
    (OwnFrom.and (fun s A B row hs hg hr => hs.grown hg (fun r e => by have := (hr r e).1; omega)) (ownFrom_mkeep (Nat.le_refl _) (Nat.le_refl _)))
    (fun c s A B row hs hg hr => hs.elim)
    ⟨vm, MKeep.refl _ _ _⟩
    (fun y a' W => ∃ Bx, W.cell? ⟨Bx, 0, none⟩ = some (.int .i64 (sAt S y).1) ∧ W.cell? ⟨Bx, 1, none⟩ = some (.bool (sAt S y).2.1) ∧ W.cell? ⟨Bx, 2, none⟩ = some (.slice (f y).1.1 (sAt S y).2.2.1.length (f y).1.2) ∧ W.cell? ⟨Bx, 3, none⟩ = some (.slice (f y).2.1.1 (sAt S y).2.2.2.1.length (f y).2.1.2) ∧ W.cell? ⟨Bx, 4, none⟩ = some (.slice (f y).2.2.1 (sAt S y).2.2.2.2.length (f y).2.2.2) ∧ a' = { tmps := #[.agg #[.int .i64 r, .slice A0 S.length c0], .pointer (some ⟨w.heap.size, 0, none⟩), .map none, .pointer (some ⟨w.heap.size + 1 + 1, 0, none⟩), undef, .pointer (some ⟨Bx, 0, none⟩), .map (some (w.heap.size + 1)), .pointer (some ⟨w.heap.size, 1, none⟩), .slice A0 S.length c0, .func (.func 64) #[] #[.pointer (some ⟨w.heap.size + 1 + 1 + 1, 0, none⟩)], .int .i64 (y : Int), .agg #[.int .i64 (sAt S y).1, .bool (sAt S y).2.1, .slice (f y).1.1 (sAt S y).2.2.1.length (f y).1.2, .slice (f y).2.1.1 (sAt S y).2.2.2.1.length (f y).2.1.2, .slice (f y).2.2.1 (sAt S y).2.2.2.2.length (f y).2.2.2], undef, undef, undef, undef, undef, undef], defers := [] })
    (fun y a' _ X Y row hs hg hr => by obtain ⟨Bx, h0, h1, h2, h3, h4, h5⟩ := hs; exact ⟨Bx, cell_kept h0 hg (fun r e => (hr r e).2), cell_kept h1 hg (fun r e => (hr r e).2), cell_kept h2 hg (fun r e => (hr r e).2), cell_kept h3 hg (fun r e => (hr r e).2), cell_kept h4 hg (fun r e => (hr r e).2), h5⟩)
    ?assign ?body ?done ?stop
  case assign =>
    rintro l pre y W K ⟨hp, hB⟩ hK
    have kP := Bk.new W 82 #[.int .i64 (sAt S y).1, .bool (sAt S y).2.1, .slice (f y).1.1 (sAt S y).2.2.1.length (f y).1.2, .slice (f y).2.1.1 (sAt S y).2.2.2.1.length (f y).2.1.2, .slice (f y).2.2.1 (sAt S y).2.2.2.2.length (f y).2.2.2]
    simp only [pvC]
    gi_wp2
    have zB := hB.size
    exact hK _ _ ((KeepsOthers.alloc _ _).from _) (MKeep.below ((Below.refl _ W).alloc zB _)) ⟨hp.up ((Up.refl _).alloc _), hB.trans (MKeep.below ((Below.refl _ W).alloc zB _))⟩ ⟨W.heap.size, kP.cell 0, kP.cell 1, kP.cell 2, kP.cell 3, kP.cell 4, rfl⟩
  case body =>
    rintro l pre y a' W hl' ⟨rr, hr⟩ ⟨hp, hB⟩ ⟨Bx, hx0, hx1, hx2, hx3, hx4, rfl⟩ hlt
    have cb : W.cell? ⟨w.heap.size + 1 + 1, 0, none⟩ = some (.map (some (w.heap.size + 1))) := (hB.cell (p := ⟨w.heap.size + 1 + 1, 0, none⟩) (by dsimp only; omega) (by dsimp only; omega)).trans (kB.cell 0)
    obtain ⟨W3, hrun, p2, bt⟩ := hp.put (t := 57) (e := 61) Try.underlying2 Try.underlying57 (by unfold maxLen; omega) (i := (sAt S y).1) (sAt_I64 hI0 y) (v := pageTo S f y) (pv_mem hI0.1 y)
    simp only [pageTo] at hrun
    have hf : (fun j => if j = (sAt S y).1 then some (pageTo S f y) else VF S f pre j) = VF S f (pre ++ [y]) := funext fun id => (VF_snoc S f y id pre).symm
    have hq : VMap Try.prog 2 W3 (w.heap.size + 1) (pre ++ [y]).length (pageVals S f) (VF S f (pre ++ [y])) := by
      rw [List.length_append, ← hf]
      exact p2
    have HQ := Lib.hid hq
    clear hq p2 hf
    gi_wp2
    exact ⟨keepsFrom_but bt (by omega), MKeep.but bt, HQ.out, hB.trans (MKeep.but bt)⟩
  case done =>
    rintro D ys W hD rfl ⟨hne, hB⟩ hK
    rw [cameN_len] at hne
    have cb : W.cell? ⟨w.heap.size + 1 + 1, 0, none⟩ = some (.map (some (w.heap.size + 1))) := (hB.cell (p := ⟨w.heap.size + 1 + 1, 0, none⟩) (by dsimp only; omega) (by dsimp only; omega)).trans (kB.cell 0)
    have uW := mkeep_up uu hB (by omega) (by omega)
    have hlt := hne.lt
    gi_wp2
    refine ⟨by simp, .inl ⟨_, _, rfl, run_takeDeferred hK, ?_⟩⟩
    have bD := belowK_b (w := W0) (Nat.le_refl _) W D _ (.deferred none) hD hK rfl rfl
    refine ⟨.map (some (w.heap.size + 1)), ?_, ⟨w.heap.size + 1, S.length, rfl, hne.same (bD.block _ (by omega)), Nat.le_refl _, by omega, Nat.lt_of_lt_of_le hlt bD.size, Below.trans (show Below w.heap.size w W from uW) (bD.mono (show w.heap.size ≤ W0.heap.size by omega))⟩⟩
    simp [results, Try.results29, go_sem]
  case stop =>
    rintro D c pre W hD _ hf hK
    exact hf.elim
end Go.Proofs.Ytgdcdfpnogiciaa
