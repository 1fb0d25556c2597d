/-
  append onto an owned slice: in its own row, or a new one. No program is named here.
-/
import Derived.Test.YtgdcdfpnogiciaaAp
import Derived.Test.YtgdcdfpnogiciaaRep3
import Derived.Deep.AppendSrc
import Derived.Deep.Upon
namespace Go.Proofs.Ytgdcdfpnogiciaa
open Go.RowKit
set_option linter.unusedVariables false
set_option linter.unusedSimpArgs false

theorem setCells_eq (g : Nat) : ∀ (cs : List Value) (w : World) (p : Nat), w.setCells g p cs = setCells w g p cs
  | [], _, _ => rfl
  | c :: cs, w, p => by unfold World.setCells setCells; exact setCells_eq g cs _ _

/-- The elements ys lie in 'news', one after the other; bs: what each owns. -/
def Rowed {α : Type} (s : Sh α) (w : World) (lo hi : Nat) (news : List Value) (ys : List α) (bs : List (List Nat)) : Prop :=
  bs.length = ys.length ∧ news.length = ys.length * s.size ∧ ∀ i (h : i < ys.length), ∃ cs b, bs[i]? = some b ∧ cs.length = s.size ∧ (∀ j, j < s.size → news[i * s.size + j]? = cs[j]?) ∧ s.own w lo hi cs ys[i] b

section
variable {P : Program} {α : Type} {s : Sh α} {w : World}
theorem Rowed.one (hg : Good s) {lo hi : Nat} {cs : List Value} {y : α} {b : List Nat} (h : s.own w lo hi cs y b) : Rowed s w lo hi cs [y] [b] := by
  have hl := hg.len (hg.own_rep h)
  refine ⟨rfl, by simp [hl], fun i hi => ?_⟩
  obtain rfl : i = 0 := by simp at hi; exact hi
  exact ⟨cs, b, rfl, hl, fun j _ => by simp, h⟩
theorem Rowed.flat (hg : Good s) (hf : Flat s) {lo hi lo' hi' g off : Nat} {xs : List α} (h : ∀ i (h : i < xs.length), ∃ cs, ElemAt w g off s.size i cs ∧ s.rep w lo' hi' cs xs[i]) :
    ∃ news, Rowed s w lo hi news xs (List.replicate xs.length []) ∧ ∀ j u, news[j]? = some u → w.cell? ((⟨g, off, none⟩ : Addr).add j) = some u := by
  obtain ⟨news, hl, hn, hel⟩ := row_cells hg h
  refine ⟨news, ⟨by simp, hl, fun i hi => ?_⟩, hn⟩
  obtain ⟨cs, hcl, hcj, hrep⟩ := hel i hi
  exact ⟨cs, [], by simp [hi], hcl, hcj, hf.own hrep _ _ _⟩
theorem Rowed.ones (hg : Good s) {lo hi : Nat} {news : List Value} {ys : List α} {bs : List (List Nat)} (h : Rowed s w lo hi news ys bs) : ∀ u ∈ news, u.oneCell' = true := by
  intro u hu
  obtain ⟨k, hk, rfl⟩ := List.getElem_of_mem hu
  have hp := hg.pos
  rw [h.2.1] at hk
  have hi : k / s.size < ys.length := (Nat.div_lt_iff_lt_mul hp).2 hk
  obtain ⟨cs, b, _, hl, hc, ho⟩ := h.2.2 _ hi
  have hj : k % s.size < s.size := Nat.mod_lt _ hp
  have e := hc _ hj
  rw [Nat.mul_comm, Nat.div_add_mod, List.getElem?_eq_getElem (by rw [h.2.1]; exact hk), List.getElem?_eq_getElem (by rw [hl]; exact hj)] at e
  injection e with e
  rw [e]
  exact hg.one (hg.own_rep ho) _ (List.getElem_mem _)

theorem flatten_snoc {bls bs : List (List Nat)} : (bls ++ bs).flatten = bls.flatten ++ bs.flatten := by simp

/-- append, whatever comes. -/
theorem run_app (hg : Good s) (t tx ty e : TypeId) (i : TypeInfo) (z : Value) (ht : P.underlying t = some (.slice e)) (hi : P.info? e = some i) (hz : i.zero = some z) (hs : i.size = s.size) (hzs : z.cells.size = s.size)
    {lo : Nat} {A : Option Addr} {c : Nat} {xs ys : List α} {bl : List Nat} {bs : List (List Nat)} {news : List Value} {v : Value} (h : SO s w lo w.heap.size A c xs bl) (nd : (bl ++ bs.flatten).Nodup) (hsrc : Src P i.size tx v ys.length news w)
    (hr : Rowed s w lo w.heap.size news ys bs) (hlo : lo ≤ w.heap.size) (hb : (xs.length + ys.length) * i.bytes ≤ 140737488355328) (h63 : xs.length + ys.length ≤ maxLen) :
    ∃ D d bl' w', (Builtin.append_ #[t, tx] ty #[.slice A xs.length c, v]).run P w = .ok (.slice D (xs.length + ys.length) d) w' ∧ SO s w' lo w'.heap.size D d (xs ++ ys) bl' ∧ bl'.Nodup ∧ (∀ y ∈ bl', y ∈ bl ++ bs.flatten ∨ w.heap.size ≤ y) ∧ Only bl w w' := by
  have hones := hr.ones hg
  have hnl : news.length = ys.length * s.size := hr.2.1
  have hp := hg.pos
  rcases Nat.eq_zero_or_pos ys.length with hy0 | hypos
  · obtain rfl := List.eq_nil_of_length_eq_zero hy0
    have hn0 : news = [] := List.eq_nil_of_length_eq_zero (by rw [hnl]; simp)
    subst hn0
    have hbs : bs = [] := List.eq_nil_of_length_eq_zero hr.1
    subst hbs
    refine ⟨A, c, bl, w, run_append_nothing w t tx ty e i ht hi A xs.length c h.1 v hsrc, by simpa using h, by simpa using nd, fun y hy => .inl (by simpa using hy), Only.refl _ _⟩
  have hlen9 : xs.length + ys.length ≤ 9223372036854775807 := by unfold maxLen at h63; omega
  -- what the row holds till now
  have hold : ∃ (olds : List Value) (bls : List (List Nat)), olds.length = xs.length * s.size ∧ (Builtin.firstCells i.size xs.length (.slice A xs.length c)).run P w.drew = .ok olds.toArray w.drew ∧ bls.length = xs.length ∧ (∀ y ∈ bls.flatten, y ∈ bl) ∧ bls.flatten.Nodup ∧
      ∀ k (hk : k < xs.length), ∃ cs b, bls[k]? = some b ∧ cs.length = s.size ∧ (∀ j, j < s.size → olds[k * s.size + j]? = cs[j]?) ∧ s.own w lo w.heap.size cs xs[k] b := by
    rcases h.2.2 with ⟨rfl, rfl, rfl⟩ | ⟨g, off, C, tid, bls, rfl, h1, h2, hh, hcap, rfl, hbl, h3⟩
    · refine ⟨[], [], by simp, ?_, rfl, by simp, by simp, fun k hk => absurd hk (by simp)⟩
      cases A <;> simp [Builtin.firstCells, loadCells, loadCellsFrom]
    · have hbk : Bk w g tid C := hh
      have hxc : off + xs.length * s.size ≤ C.size := Nat.le_trans (Nat.add_le_add_left (Nat.mul_le_mul_right _ h.1) _) hcap
      have hadd : ∀ j, (⟨g, off, none⟩ : Addr).add j = ⟨g, off + j, none⟩ := fun j => by unfold Addr.add; split <;> simp_all
      have hol : ((C.toList.drop off).take (xs.length * s.size)).length = xs.length * s.size := by simp; omega
      have hat : ∀ j, j < xs.length * s.size → ((C.toList.drop off).take (xs.length * s.size))[j]? = C[off + j]? := fun j hj => by
        rw [List.getElem?_take_of_lt hj, List.getElem?_drop]; simp
      refine ⟨(C.toList.drop off).take (xs.length * s.size), bls, hol, ?_, hbl, fun y hy => List.mem_cons_of_mem _ hy, ?_, fun k hk => ?_⟩
      · refine run_firstCells_some (P := P) w.drew i.size xs.length ⟨g, off, none⟩ xs.length c _ (by rw [hol, hs]) (fun j u hu => ?_)
        rw [hadd]
        have hj : j < xs.length * s.size := by rw [← hol]; exact (List.getElem?_eq_some_iff.1 hu).1
        rw [hat j hj] at hu
        exact (hbk.drew.cell _).trans hu
      · have := (List.nodup_append.1 nd).1
        exact (List.nodup_cons.1 this).2
      · obtain ⟨cs, b, e1, e2, e3, e4⟩ := h3 k hk
        refine ⟨cs, b, e1, e2, fun j hj => ?_, e4⟩
        have hlt : k * s.size + j < xs.length * s.size := by
          have := Nat.mul_le_mul_right s.size (Nat.succ_le_of_lt hk)
          rw [Nat.succ_mul] at this
          omega
        rw [hat _ hlt]
        exact e3 j hj
  by_cases hroom : xs.length + ys.length ≤ c
  · -- there is room: in its own row
    rcases h.2.2 with ⟨rfl, rfl, rfl⟩ | ⟨g, off, C, tid, bls, rfl, h1, h2, hh, hcap, rfl, hbl, h3⟩
    · simp only [List.length_nil, Nat.zero_add] at hroom; omega
    have hbk : Bk w g tid C := hh
    have hxy : off + (xs.length + ys.length) * s.size ≤ C.size := Nat.le_trans (Nat.add_le_add_left (Nat.mul_le_mul_right _ hroom) _) hcap
    rw [Nat.add_mul] at hxy
    have hrun := run_append_room_src (P := P) w t tx ty e i ht hi g off xs.length c v ys.length news hsrc hroom
      (fun j hj => by
        rw [hbk.cell, hs, Array.getElem?_eq_getElem (by rw [hnl] at hj; omega)]; rfl) (fun j hj => hbk.frozen _)
    rw [hs, setCells_eq] at hrun
    have hbut := But.sets (g := g) news w (off + xs.length * s.size)
    have hbk' := hbk.sets news (off + xs.length * s.size)
    have hnd := List.nodup_append.1 nd
    have hnd1 := List.nodup_cons.1 hnd.1
    refine ⟨_, _, g :: (bls ++ bs).flatten, _, hrun, ⟨by simpa using hroom, h.2.1, .inr ⟨g, off, _, tid, bls ++ bs, rfl, h1, by rw [hbut.size]; exact h2, hbk', by rw [putCells_size]; exact hcap, rfl, by simp [hbl, hr.1], fun k hk => ?_⟩⟩, ?_, ?_, ?_⟩
    · rw [hbut.size]
      by_cases hkx : k < xs.length
      · obtain ⟨cs, b, e1, e2, e3, e4⟩ := h3 k hkx
        refine ⟨cs, b, by rw [List.getElem?_append_left (by omega)]; exact e1, e2, fun j hj => ?_, ?_⟩
        · have := Nat.mul_le_mul_right s.size (Nat.succ_le_of_lt hkx)
          rw [Nat.succ_mul] at this
          rw [putCells_far _ _ _ _ (by omega)]
          exact e3 j hj
        · rw [List.getElem_append_left hkx]
          refine hg.own_keep e4 (fun y hy => hbut.block y (fun e => ?_))
          subst e
          exact hnd1.1 (List.mem_flatten.2 ⟨b, List.mem_of_getElem? e1, hy⟩)
      · have hk' : k - xs.length < ys.length := by simp at hk; omega
        obtain ⟨cs, b, e1, e2, e3, e4⟩ := hr.2.2 (k - xs.length) hk'
        refine ⟨cs, b, by rw [List.getElem?_append_right (by omega), hbl]; exact e1, e2, fun j hj => ?_, ?_⟩
        · have hm := Nat.mul_le_mul_right s.size (Nat.succ_le_of_lt hk')
          rw [Nat.succ_mul] at hm
          have hks : k * s.size = xs.length * s.size + (k - xs.length) * s.size := by rw [← Nat.add_mul]; congr 1; omega
          rw [show off + (k * s.size + j) = off + xs.length * s.size + ((k - xs.length) * s.size + j) by omega, putCells_at _ _ _ _ (by rw [hnl]; omega) (by rw [hnl]; omega)]
          exact e3 j hj
        · rw [List.getElem_append_right (by omega)]
          refine hg.own_keep e4 (fun y hy => hbut.block y (fun e => ?_))
          subst e
          exact hnd.2.2 y (List.mem_cons_self ..) y (List.mem_flatten.2 ⟨b, List.mem_of_getElem? e1, hy⟩) rfl
    · rw [flatten_snoc]; simpa using nd
    · intro y hy
      rw [flatten_snoc] at hy
      exact .inl (by simpa using hy)
    · exact (Only.refl _ w).but hbut (List.mem_cons_self ..)
  · -- a new row
    obtain ⟨olds, bls, hol, hrun0, hbl, hsub, hndf, h3⟩ := hold
    have hgrow : c < xs.length + ys.length := by omega
    have hrun := run_append_grow_src (P := P) w t tx ty e i z ht hi hz A xs.length c olds hrun0 v ys.length news hsrc hgrow (by omega) (growslice_fits hgrow hb)
    have hge := grownCap_ge w (xs.length + ys.length) c e
    have hcm : grownCap w (xs.length + ys.length) c e ≤ maxLen := grownCap_le_maxLen w _ c e h63
    have hu : Up w (w.drew.alloc (.cells ((olds ++ news).toArray ++ Builtin.zeroCells z.cells (grownCap w (xs.length + ys.length) c e - (xs.length + ys.length))) e)) := (Up.refl w).drew.alloc _
    have hnd := List.nodup_append.1 nd
    have hcell : ∀ p, p < (xs.length + ys.length) * s.size → ((olds ++ news).toArray ++ Builtin.zeroCells z.cells (grownCap w (xs.length + ys.length) c e - (xs.length + ys.length)))[p]? = (olds ++ news)[p]? := fun p hp' => by
      rw [Array.getElem?_append_left (by rw [Nat.add_mul] at hp'; simp only [List.size_toArray, List.length_append, hol, hnl]; exact hp')]
      simp
    have hin : ∀ y ∈ bl, y < w.heap.size := fun y hy => (h.in_ hg y hy).2
    have hinb : ∀ y ∈ bs.flatten, y < w.heap.size := fun y hy => by
      obtain ⟨l, hl, hyl⟩ := List.mem_flatten.1 hy
      obtain ⟨q, hq, rfl⟩ := List.getElem_of_mem hl
      obtain ⟨cs, b, e1, _, _, e4⟩ := hr.2.2 q (by rw [← hr.1]; exact hq)
      rw [List.getElem?_eq_getElem hq] at e1
      injection e1 with e1
      subst e1
      exact (hg.own_in e4 y hyl).2
    refine ⟨_, _, w.heap.size :: (bls ++ bs).flatten, _, hrun, ⟨by simpa using hge, hcm, .inr ⟨w.heap.size, 0, _, e, bls ++ bs, rfl, hlo, by simp, heap_alloc_new w.drew _, ?_, rfl, by simp [hbl, hr.1], fun k hk => ?_⟩⟩, ?_, ?_, Only.of_up hu⟩
    · simp only [Array.size_append, size_zeroCells, hzs, List.size_toArray, List.length_append, hol, hnl]
      rw [← Nat.add_mul, ← Nat.add_mul, Nat.zero_add]
      exact Nat.mul_le_mul_right _ (by omega)
    · by_cases hkx : k < xs.length
      · obtain ⟨cs, b, e1, e2, e3, e4⟩ := h3 k hkx
        refine ⟨cs, b, by rw [List.getElem?_append_left (by omega)]; exact e1, e2, fun j hj => ?_, ?_⟩
        · have := Nat.mul_le_mul_right s.size (Nat.succ_le_of_lt hkx)
          rw [Nat.succ_mul] at this
          rw [Nat.zero_add, hcell _ (by rw [Nat.add_mul]; omega), List.getElem?_append_left (by rw [hol]; omega)]
          exact e3 j hj
        · rw [List.getElem_append_left hkx]
          exact own_up hg e4 hu
      · have hk' : k - xs.length < ys.length := by simp at hk; omega
        obtain ⟨cs, b, e1, e2, e3, e4⟩ := hr.2.2 (k - xs.length) hk'
        refine ⟨cs, b, by rw [List.getElem?_append_right (by omega), hbl]; exact e1, e2, fun j hj => ?_, ?_⟩
        · have hm := Nat.mul_le_mul_right s.size (Nat.succ_le_of_lt hk')
          rw [Nat.succ_mul] at hm
          have hks : k * s.size = xs.length * s.size + (k - xs.length) * s.size := by rw [← Nat.add_mul]; congr 1; omega
          rw [Nat.zero_add, hcell _ (by rw [Nat.add_mul]; omega), List.getElem?_append_right (by rw [hol]; omega), hol, show k * s.size + j - xs.length * s.size = (k - xs.length) * s.size + j by omega]
          exact e3 j hj
        · rw [List.getElem_append_right (by omega)]
          exact own_up hg e4 hu
    · rw [List.nodup_cons, flatten_snoc, List.nodup_append]
      refine ⟨fun hm => ?_, hndf, hnd.2.1, fun a ha b hb e => hnd.2.2 a (hsub a ha) b hb e⟩
      rcases List.mem_append.1 hm with hm | hm
      · have := hin _ (hsub _ hm); omega
      · have := hinb _ hm; omega
    · intro y hy
      rcases List.mem_cons.1 hy with rfl | hy
      · exact .inr (Nat.le_refl _)
      · rw [flatten_snoc] at hy
        rcases List.mem_append.1 hy with hy | hy
        · exact .inl (List.mem_append_left _ (hsub y hy))
        · exact .inl (List.mem_append_right _ hy)

/-- What append leaves. -/
def AppP {α : Type} (s : Sh α) (w : World) (lo : Nat) (xs ys : List α) (bl : List Nat) (bs : List (List Nat)) (D : Option Addr) (d : Nat) (bl' : List Nat) (w' : World) : Prop :=
  SO s w' lo w'.heap.size D d (xs ++ ys) bl' ∧ bl'.Nodup ∧ (∀ y ∈ bl', y ∈ bl ++ bs.flatten ∨ w.heap.size ≤ y) ∧ Only bl w w'
theorem wp_app (hg : Good s) {o : Oper} {a : Act} {K : Act → World → Prop} {Q : Exit → Act → World → Prop} (so x : Operand) (t tx e : TypeId)
    (ho : o.op = .call { callee := .builtin .append, args := #[so, x], argTypes := #[t, tx] }) (i : TypeInfo) (z : Value) (ht : P.underlying t = some (.slice e)) (hi : P.info? e = some i) (hz : i.zero = some z) (hs : i.size = s.size) (hzs : z.cells.size = s.size)
    {lo : Nat} {A : Option Addr} {c : Nat} {xs ys : List α} {bl : List Nat} {bs : List (List Nat)} {news : List Value} {v : Value} (hv : a.eval so = .slice A xs.length c) (hx : a.eval x = v)
    (h : SO s w lo w.heap.size A c xs bl) (nd : (bl ++ bs.flatten).Nodup) (hsrc : Src P i.size tx v ys.length news w) (hr : Rowed s w lo w.heap.size news ys bs) (hlo : lo ≤ w.heap.size) (hb : (xs.length + ys.length) * i.bytes ≤ 140737488355328) (h63 : xs.length + ys.length ≤ maxLen)
    (k : ∀ D d bl' w', AppP s w lo xs ys bl bs D d bl' w' → K (a.put o.dst (.slice D (xs.length + ys.length) d)) w') : o.wp P a w K Q := by
  obtain ⟨D, d, bl', w', hrun, h1⟩ := run_app (P := P) (w := w) hg t tx o.type e i z ht hi hz hs hzs h nd hsrc hr hlo hb h63
  unfold Oper.wp execOp
  simp only [ho, resolve, invoke, builtin, Sem.run_bind, Sem.run_pure, Result.andThen_ok, List.map_toArray, List.map_cons, List.map_nil, hv, hx, hrun]
  exact k D d bl' w' h1
theorem wpList_app (hg : Good s) {ops : Array Oper} {rest : List Oper} {o : Oper} {a : Act} {Q : Exit → Act → World → Prop} (hgd : o.guard = none) (so x : Operand) (t tx e : TypeId)
    (ho : o.op = .call { callee := .builtin .append, args := #[so, x], argTypes := #[t, tx] }) (i : TypeInfo) (z : Value) (ht : P.underlying t = some (.slice e)) (hi : P.info? e = some i) (hz : i.zero = some z) (hs : i.size = s.size) (hzs : z.cells.size = s.size)
    {lo : Nat} {A : Option Addr} {c : Nat} {xs ys : List α} {bl : List Nat} {bs : List (List Nat)} {news : List Value} {v : Value} (hv : a.eval so = .slice A xs.length c) (hx : a.eval x = v)
    (h : SO s w lo w.heap.size A c xs bl) (nd : (bl ++ bs.flatten).Nodup) (hsrc : Src P i.size tx v ys.length news w) (hr : Rowed s w lo w.heap.size news ys bs) (hlo : lo ≤ w.heap.size) (hb : (xs.length + ys.length) * i.bytes ≤ 140737488355328) (h63 : xs.length + ys.length ≤ maxLen)
    (k : ∀ D d bl' w', AppP s w lo xs ys bl bs D d bl' w' → wpList P ops Q rest (a.put o.dst (.slice D (xs.length + ys.length) d)) w') : wpList P ops Q (o :: rest) a w :=
  wpList_plain hgd fun _ hK => wp_app hg so x t tx e ho i z ht hi hz hs hzs hv hx h nd hsrc hr hlo hb h63 fun D d bl' w' h1 => hK _ _ (k D d bl' w' h1)
theorem step_app (hg : Good s) {ops : Array Oper} {o : Oper} {a : Act} {K : Act → World → Prop} {Q : Exit → Act → World → Prop} {E : Prop} (hgd : o.guard = none) (so x : Operand) (t tx e : TypeId)
    (ho : o.op = .call { callee := .builtin .append, args := #[so, x], argTypes := #[t, tx] }) (i : TypeInfo) (z : Value) (ht : P.underlying t = some (.slice e)) (hi : P.info? e = some i) (hz : i.zero = some z) (hs : i.size = s.size) (hzs : z.cells.size = s.size)
    {lo : Nat} {A : Option Addr} {c : Nat} {xs ys : List α} {bl : List Nat} {bs : List (List Nat)} {news : List Value} {v : Value} (hv : a.eval so = .slice A xs.length c) (hx : a.eval x = v)
    (h : SO s w lo w.heap.size A c xs bl) (nd : (bl ++ bs.flatten).Nodup) (hsrc : Src P i.size tx v ys.length news w) (hr : Rowed s w lo w.heap.size news ys bs) (hlo : lo ≤ w.heap.size) (hb : (xs.length + ys.length) * i.bytes ≤ 140737488355328) (h63 : xs.length + ys.length ≤ maxLen)
    (k : ∀ D d bl' w', AppP s w lo xs ys bl bs D d bl' w' → K (a.put o.dst (.slice D (xs.length + ys.length) d)) w') : if Region.wanted o (yielded ops a.tmps) = true then Oper.wp P o a w K Q else E := by
  have hw : Region.wanted o (yielded ops a.tmps) = true := by simp [Region.wanted, hgd]
  rw [if_pos hw]
  exact wp_app hg so x t tx e ho i z ht hi hz hs hzs hv hx h nd hsrc hr hlo hb h63 k

/-- One element that lies in a block of its own (the call's 'buildSlice'). -/
theorem Src.box {tx e' : TypeId} (hk : P.underlying tx = some (.slice e')) {B : Nat} {t : TypeId} {cs : List Value} (hB : Bk w B t cs.toArray) (hone : ∀ u ∈ cs, u.oneCell' = true) {n : Nat} (hn : cs.length = n) : Src P n tx (.slice (some ⟨B, 0, none⟩) 1 1) 1 cs w :=
  Src.ofSlice w hk ⟨B, 0, none⟩ 1 1 cs (by rw [hn]; simp) (fun j u hu => by
    have hadd : (⟨B, 0, none⟩ : Addr).add j = ⟨B, 0 + j, none⟩ := by unfold Addr.add; split <;> simp_all
    rw [hadd, Nat.zero_add, hB.cell]; simpa using hu) hone
end
end Go.Proofs.Ytgdcdfpnogiciaa
