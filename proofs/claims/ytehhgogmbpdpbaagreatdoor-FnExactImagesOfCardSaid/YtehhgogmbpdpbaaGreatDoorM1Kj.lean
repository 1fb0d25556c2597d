/-
  One change of a tree: both sides; DoChange.
-/
import Derived.Test.YtehhgogmbpdpbaaGreatDoorM1Ki
namespace Go.Proofs.YtehhgogmbpdpbaaGreatDoor
open Go.RowKit
set_option linter.unusedVariables false
set_option linter.unusedSimpArgs false

abbrev locC (c : TChange) : TLoc := (c.2.1, c.2.2.1)
def doC (x : TTree) (c : TChange) : Int := if c.1 = 1 then putC x (locC c) else 0
def doK (x : TTree) (c : TChange) : TTree := if c.1 = 1 then putK x (locC c) c.2.2.2 else killT x (locC c)
def doR (x : TTree) (c : TChange) : TTree := if doC x c = 0 then doK x c else []
theorem doC_cases (x : TTree) (c : TChange) : doC x c = 0 ∨ doC x c = 4 := by
  unfold doC
  split
  · exact putC_cases _ _
  · simp
theorem changeB_place {c : TChange} (h : changeB c = true) : placeB c.2.1 c.2.2.1 = true := by
  simp only [changeB, Bool.and_eq_true] at h
  exact h.1
theorem changeB_set {c : TChange} (h : changeB c = true) (h1 : c.1 = 1) : c.2.2.2.size ≤ 64 := by
  simp only [changeB, Bool.and_eq_true, kindB, h1, if_true, decide_eq_true_eq] at h
  exact h.2
theorem doK_P {x : TTree} {c : TChange} (hx : TreeP x) (hc : changeB c = true) : TreeP (doK x c) := by
  unfold doK
  split
  · rename_i h1
    unfold putK
    split
    · rename_i h2
      exact putT_P hx (changeB_place hc) (changeB_set hc h1) (putC_ok h2)
    · exact hx
  · exact killT_P hx
theorem doR_P {x : TTree} {c : TChange} (hx : TreeP x) (hc : changeB c = true) : TreeP (doR x c) := by
  unfold doR
  split
  · exact doK_P hx hc
  · exact treeP_nil
theorem nodeB_sz {n : TNode} (h : nodeB n = true) : shNode.sz n ≤ 172 := by
  have hp := nodeB_place h
  have hv : n.2.2.size ≤ 64 := by
    simp only [nodeB, Bool.and_eq_true, decide_eq_true_eq] at h
    exact h.2
  simp only [placeB, Bool.and_eq_true] at hp
  have hn : NameP n.1 := of_decide_eq_true hp.1
  have hs : SubsP n.2.1 := of_decide_eq_true hp.2
  have h2 : shNode.sz n = n.1.size + ((n.2.1.length + (n.2.1.map shS.sz).sum) + n.2.2.size) := rfl
  have h3 : (n.2.1.map shS.sz).sum ≤ 24 * n.2.1.length := by
    have hall : ∀ s ∈ n.2.1, s.size ≤ 24 := fun s hs' => by
      obtain ⟨i, hi, rfl⟩ := List.getElem_of_mem hs'
      have := hs.2 i hi
      simp only [subB, Bool.and_eq_true, decide_eq_true_eq] at this
      exact this.2
    clear h2 hs hp h
    generalize n.2.1 = l at *
    induction l with
    | nil => simp
    | cons a l ih =>
      have h1 := hall a (by simp)
      have h2 := ih (fun s hs => hall s (by simp [hs]))
      have e : shS.sz a = a.size := rfl
      simp only [List.map_cons, List.sum_cons, List.length_cons]
      omega
  have h4 := hs.1
  have h5 := hn.2.1
  omega
theorem treeP_sz {x : TTree} (h : TreeP x) : shTree.sz x ≤ 1048576 := by
  have h1 := (treeP_iff.1 h).2.1
  have h2 := h.1
  have h3 : (x.map shNode.sz).sum ≤ 172 * x.length := by
    clear h h2
    induction x with
    | nil => simp
    | cons n x ih =>
      have e1 := nodeB_sz (h1 n (by simp))
      have e2 := ih (fun m hm => h1 m (by simp [hm]))
      simp only [List.map_cons, List.sum_cons, List.length_cons]
      omega
  show x.length + (x.map shNode.sz).sum ≤ _
  omega
set_option maxRecDepth 100000 in
set_option maxHeartbeats 8000000 in
theorem c_change (g : Nat) (x : TTree) (bl : List Nat) (lo : Nat) (w : World) (h : OT lo w g x bl) (hlo : lo ≤ w.heap.size) (hx : TreeP x) (c : TChange) (cs : List Value) (hc : changeB c = true) (hr : shChange.rep w 0 lo cs c) (htab : Tab w) :
    Calls Tryz.prog 80 #[.pointer (some ⟨g, 0, none⟩), .agg cs.toArray] w fun e w' => e = .returned (.int .i64 (doC x c)) ∧ OTp lo w g bl (doK x c) w' := by
  have hin := h.in_
  have hgl := h.lt
  have hpl := changeB_place hc
  have hst := placeB_small hpl
  have hyl := subs_len hpl
  obtain ⟨n, s, ys, val⟩ := c
  obtain ⟨A2, c2, rfl, b0, b1, b2, b3⟩ := openChange hr
  dsimp only at b0 b1 b2 b3 hst hyl
  have kb := Bk.new w 72 #[.int .i64 n, .string s, .slice A2 ys.length c2, .string val]
  have uu : Up w (w.alloc (.cells #[.int .i64 n, .string s, .slice A2 ys.length c2, .string val] 72)) := (Up.refl w).alloc _
  have b2w : ∀ W, Up w W → SRW shS W A2 c2 ys := fun W hW => SR.up good_S (b2.wide good_S (Nat.le_refl _) hlo) hW
  by_cases h1 : n = 1
  · subst h1
    have hK : Hid (doK x (1, s, ys, val) = putK x (s, ys) val) := by unfold Hid doK; rw [if_pos rfl]
    have hC : Hid (doC x (1, s, ys, val) = putC x (s, ys)) := by unfold Hid doC; rw [if_pos rfl]
    have cp := fun W (hW : Up w W) => c_put g x bl lo W (h.up hW) (Nat.le_trans hlo hW.size) hx s ys A2 c2 val (b2w W hW) b1 hst (by omega) b3 (tab_up htab hW)
    have CP := Lib.hid cp
    have HIN := Lib.hid hin
    clear cp hst hx hc hr h b2w hpl
    go_enter Tryz.func80, Tryz.ntmps80
    go_wp2_with fail
    refine (CP.out _ uu).mono ?_
    rintro e w1 ⟨rfl, hop⟩
    go_wp2_with fail
    go_ret
    exact ⟨by rw [hC.out]; first | done | rfl, by rw [hK.out]; exact OTp.before uu hgl (fun y hy => (HIN.out y hy).2) hop⟩
  · have hK : Hid (doK x (n, s, ys, val) = killT x (s, ys)) := by unfold Hid doK; rw [if_neg h1]
    have hC : Hid (doC x (n, s, ys, val) = 0) := by unfold Hid doC; rw [if_neg h1]
    have e1 : (n == 1) = false := by simpa using h1
    have cp := fun W (hW : Up w W) => c_kill g x bl lo W (h.up hW) (Nat.le_trans hlo hW.size) s ys A2 c2 (b2.keep good_S (fun b _ hb => hW.block b (by omega)))
    have CP := Lib.hid cp
    have HIN := Lib.hid hin
    clear cp hst hx hc hr h b2w hpl h1
    go_enter Tryz.func80, Tryz.ntmps80
    go_wp2_with fail
    refine (CP.out _ uu).mono ?_
    rintro e w1 ⟨rfl, hop⟩
    go_wp2_with fail
    go_ret
    exact ⟨by rw [hC.out]; first | done | rfl, by rw [hK.out]; exact OTp.before uu hgl (fun y hy => (HIN.out y hy).2) hop⟩
set_option maxRecDepth 100000 in
set_option maxHeartbeats 8000000 in
theorem c_l03Do (x : TTree) (v : Value) (c : TChange) (u : Value) (w : World) (h : AV shTree w v x) (k : AV shChange w u c) (hx : x.length ≤ 1000000) (hl : ∀ i (h : i < x.length), x[i].2.1.length ≤ 1048576) (hy : c.2.2.1.length ≤ 1048576) :
    Calls Tryz.prog 123 #[v, u] w (ToR shTree (doR x c) (doC x c) w) := by
  have hvv := h
  obtain ⟨cs, rfl, h⟩ := h
  obtain ⟨A0, c0, rfl, b00⟩ := openTree h
  clear h
  obtain ⟨n, s, ys, val⟩ := c
  obtain ⟨ds, rfl, k⟩ := k
  obtain ⟨A2, c2, rfl, b0, b1, b2, b3⟩ := openChange k
  dsimp only at b0 b1 b2 b3 hy
  clear k
  obtain ⟨W0, hW0⟩ : ∃ W0, W0 = (((w.alloc (.cells #[.slice A0 x.length c0] 33)).alloc (.cells #[.int .i64 n, .string s, .slice A2 ys.length c2, .string val] 72)).alloc (.cells #[.slice none 0 0] 33)) := ⟨_, rfl⟩
  have u0 : Up w W0 := by rw [hW0]; exact (((Up.refl w).alloc _).alloc _).alloc _
  have kr0 : Bk W0 (w.heap.size + 2) 33 #[.slice none 0 0] := by
    rw [hW0]
    have := Bk.new ((w.alloc (.cells #[.slice A0 x.length c0] 33)).alloc (.cells #[.int .i64 n, .string s, .slice A2 ys.length c2, .string val] 72)) 33 #[.slice none 0 0]
    simpa using this
  have hs0 : W0.heap.size = w.heap.size + 3 := by rw [hW0]; simp
  by_cases h1 : n = 1
  · subst h1
    have hC : Hid (doC x (1, s, ys, val) = putC x (s, ys)) := by unfold Hid doC; rw [if_pos rfl]
    have hR : Hid (doR x (1, s, ys, val) = putR x (s, ys) val) := by
      unfold Hid doR
      rw [hC.out]
      unfold putR doK putK
      rw [if_pos rfl]
      split
      · rfl
      · rfl
    have cp := fun W (hW : Up w W) => c_l03Put x _ s ys A2 c2 val W (hvv.up good_Tree hW) (b2.up good_S hW) b1 b3 hx hl hy
    have CP := Lib.hid cp
    clear cp hl
    go_enter Tryz.func123, Tryz.ntmps123
    go_wp2_with fail
    rw [← hW0]
    refine (CP.out _ u0).mono ?_
    rintro e w1 ⟨cs1, bl1, rfl, o1, nd1, u1⟩
    obtain ⟨D3, d3, _, rfl, rfl, o4⟩ := openOTree o1
    have kr1 := kr0.up u1
    have gr1 : w1.cell? ⟨w.heap.size + 1 + 1, 0, none⟩ = some (.slice none 0 0) := kr1.cell 0
    have fr1 : w1.frozen? ⟨w.heap.size + 1 + 1, 0, none⟩ = false := kr1.frozen 0
    clear hW0
    go_wp2_with fail
    have z4 := (o4.set good_Node (w.heap.size + 1 + 1) 0 [.slice D3 (putR x (s, ys) val).length d3] (by omega)).wide good_Node (lo' := w.heap.size) (by omega) (Nat.le_refl _)
    refine bodyPost_ret (v := .tuple #[.agg #[.slice D3 (putR x (s, ys) val).length d3], .int .i64 (putC x (s, ys))]) (by simp [results, Tryz.results123, go_sem, gr1]) rfl ?_
    exact toR_eq hR hC ⟨[.slice D3 (putR x (s, ys) val).length d3], _, rfl, mkOTree z4, nd1, (u0.trans u1).setCell (by simp; omega) _⟩
  · have hC : Hid (doC x (n, s, ys, val) = 0) := by unfold Hid doC; rw [if_neg h1]
    have hR : Hid (doR x (n, s, ys, val) = killT x (s, ys)) := by
      unfold Hid doR
      rw [hC.out]
      unfold doK
      rw [if_pos rfl, if_neg h1]
    have e1 : (n == 1) = false := by simpa using h1
    have cp := fun W (hW : Up w W) => c_l03Kill x _ s ys A2 c2 W (hvv.up good_Tree hW) (b2.up good_S hW) hx hl
    have CP := Lib.hid cp
    clear cp hl h1
    go_enter Tryz.func123, Tryz.ntmps123
    go_wp2_with fail
    rw [← hW0]
    refine (CP.out _ u0).mono ?_
    rintro e w1 ⟨cs1, bl1, rfl, o1, nd1, u1⟩
    obtain ⟨D3, d3, _, rfl, rfl, o4⟩ := openOTree o1
    have kr1 := kr0.up u1
    have gr1 : w1.cell? ⟨w.heap.size + 1 + 1, 0, none⟩ = some (.slice none 0 0) := kr1.cell 0
    have fr1 : w1.frozen? ⟨w.heap.size + 1 + 1, 0, none⟩ = false := kr1.frozen 0
    clear hW0
    go_wp2_with fail
    have z4 := (o4.set good_Node (w.heap.size + 1 + 1) 0 [.slice D3 (killT x (s, ys)).length d3] (by omega)).wide good_Node (lo' := w.heap.size) (by omega) (Nat.le_refl _)
    refine bodyPost_ret (v := .tuple #[.agg #[.slice D3 (killT x (s, ys)).length d3], .int .i64 0]) (by simp [results, Tryz.results123, go_sem, gr1]) rfl ?_
    exact toR_eq hR hC ⟨[.slice D3 (killT x (s, ys)).length d3], _, rfl, mkOTree z4, nd1, (u0.trans u1).setCell (by simp; omega) _⟩
end Go.Proofs.YtehhgogmbpdpbaaGreatDoor
