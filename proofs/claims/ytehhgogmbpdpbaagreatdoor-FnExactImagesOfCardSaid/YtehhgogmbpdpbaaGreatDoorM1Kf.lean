/-
  slices.DeleteFunc of nodes: those stay of which the predicate says no.
-/
import Derived.Test.YtehhgogmbpdpbaaGreatDoorM1Po
import Derived.Test.YtehhgogmbpdpbaaGreatDoorM1E
namespace Go.Proofs.YtehhgogmbpdpbaaGreatDoor
open Go.RowKit
set_option linter.unusedVariables false
set_option linter.unusedSimpArgs false

theorem run_clear_cells {P : Program} (w : World) (t e ty : TypeId) (i : TypeInfo) (z : Value) (ht : P.underlying t = some (.slice e)) (hi : P.info? e = some i) (hz : i.zero = some z) (b o n c : Nat) (hn : 0 < n) (vs : List Value) (hvs : vs = (Builtin.zeroCells z.cells n).toList)
    (hc : ∀ j, j < vs.length → (w.cell? ⟨b, o + j, none⟩).isSome = true) (hf : ∀ j, j < vs.length → w.frozen? ⟨b, o + j, none⟩ = false) (h1 : ∀ v ∈ vs, v.oneCell' = true) :
    (Builtin.clear_ #[t] ty #[.slice (some ⟨b, o, none⟩) n c]).run P w = .ok (.tuple #[]) (setCells w b o vs) := by
  have hst := run_storeCells_cells (P := P) b o vs 0 w (by simpa using hc) (by simpa using hf) h1
  simp only [Nat.add_zero, setCells_eq] at hst
  obtain ⟨m, rfl⟩ : ∃ m, n = m + 1 := ⟨n - 1, by omega⟩
  simp [Builtin.clear_, run_underlying ht, zeroValue, typeInfo, hi, hz, ← hvs, hst]
theorem wp_clear_run {P : Program} (w : World) {o : Oper} {a : Act} {K : Act → World → Prop} {Q : Exit → Act → World → Prop} (d : Operand) (t : TypeId)
    (ho : o.op = .call { callee := .builtin .clear, args := #[d], argTypes := #[t] }) (v : Value) (hd : a.eval d = v) {v' : Value} {w' : World}
    (hr : (Builtin.clear_ #[t] o.type #[v]).run P w = .ok v' w') (h : K (a.put o.dst v') w') : o.wp P a w K Q := by
  unfold Oper.wp execOp
  simp only [ho, resolve, invoke, builtin, Sem.run_bind, Sem.run_pure, Result.andThen_ok, List.map_toArray, List.map_cons, List.map_nil, hd, hr]
  exact h
theorem wpList_clear_run {P : Program} (w : World) {ops : Array Oper} {rest : List Oper} {o : Oper} {a : Act} {Q : Exit → Act → World → Prop} (hgd : o.guard = none) (d : Operand) (t : TypeId)
    (ho : o.op = .call { callee := .builtin .clear, args := #[d], argTypes := #[t] }) (v : Value) (hd : a.eval d = v) {v' : Value} {w' : World}
    (hr : (Builtin.clear_ #[t] o.type #[v]).run P w = .ok v' w') (h : wpList P ops Q rest (a.put o.dst v') w') : wpList P ops Q (o :: rest) a w :=
  wpList_plain hgd fun _ hK => wp_clear_run w d t ho v hd hr (hK _ _ h)

/-- The row while its elements are sifted: those of the first j that stay lie at its head, those from j on where they were. -/
def SiftI (w : World) (lo g off : Nat) (tid : TypeId) (C : Array Value) (x : TTree) (q : TNode → Bool) (olds : List Value) (bls : List (List Nat)) (i j : Nat) (wr : World) : Prop :=
  ∃ (C' : Array Value) (news : List Value) (bs : List (List Nat)), Bk wr g tid C' ∧ C'.size = C.size ∧ Rowed shNode w lo w.heap.size news ((x.take j).filter q) bs ∧ bs.flatten.Sublist (bls.take j).flatten ∧ (∀ t, t < news.length → C'[off + t]? = news[t]?) ∧
    (∀ t, j * 3 ≤ t → t < olds.length → C'[off + t]? = olds[t]?) ∧ i = ((x.take j).filter q).length ∧ Only [g] w wr
section
variable {w : World} {lo g off : Nat} {tid : TypeId} {C : Array Value} {x : TTree} {q : TNode → Bool} {olds : List Value} {bls : List (List Nat)} {i j : Nat} {wr : World}
theorem sift_le (h : SiftI w lo g off tid C x q olds bls i j wr) : i ≤ j := by
  obtain ⟨_, _, _, _, _, _, _, _, _, hi, _⟩ := h
  rw [hi]
  exact Nat.le_trans (List.length_filter_le _ _) (by rw [List.length_take]; omega)
theorem sift_start (hb : Bk w g tid C) (hr : Rowed shNode w lo w.heap.size olds x bls) (ho : ∀ t, t < olds.length → C[off + t]? = olds[t]?) {k : Nat} (hk : k < x.length) (hall : (x.take k).any (fun n => !q n) = false) (hq : q x[k] = false) (u : Up w wr) : SiftI w lo g off tid C x q olds bls k (k + 1) wr := by
  have hf : (x.take (k + 1)).filter q = x.take k := by
    rw [List.take_succ_eq_append_getElem hk, List.filter_append]
    have h1 : (x.take k).filter q = x.take k := List.filter_eq_self.2 fun a ha => by
      rw [List.any_eq_false] at hall
      have := hall a ha
      simpa using this
    rw [h1]
    simp [hq]
  have hl := hr.2.1
  refine ⟨C, olds.take (k * 3), bls.take k, hb.up u, rfl, by rw [hf]; exact hr.take (Nat.le_of_lt hk), ?_, fun t ht => ?_, fun t _ ht => ho t ht, by rw [hf, List.length_take]; omega, Only.of_up u⟩
  · rw [← List.take_append_drop k (bls.take (k + 1)), List.flatten_append, List.take_take, Nat.min_eq_left (by omega)]
    exact List.sublist_append_left _ _
  · simp only [List.length_take] at ht
    rw [List.getElem?_take_of_lt (by omega)]
    exact ho t (by omega)
theorem sift_up (h : SiftI w lo g off tid C x q olds bls i j wr) {w1 : World} (u : Up wr w1) : SiftI w lo g off tid C x q olds bls i j w1 := by
  obtain ⟨C', news, bs, h1, h2, h3, h4, h5, h6, h7, h8⟩ := h
  exact ⟨C', news, bs, h1.up u, h2, h3, h4, h5, h6, h7, h8.up u⟩
theorem sift_drop (h : SiftI w lo g off tid C x q olds bls i j wr) (hj : j < x.length) (hq : q x[j] = false) : SiftI w lo g off tid C x q olds bls i (j + 1) wr := by
  obtain ⟨C', news, bs, h1, h2, h3, h4, h5, h6, h7, h8⟩ := h
  have hf : (x.take (j + 1)).filter q = (x.take j).filter q := by rw [List.take_succ_eq_append_getElem hj, List.filter_append]; simp [hq]
  refine ⟨C', news, bs, h1, h2, by rw [hf]; exact h3, h4.trans ?_, h5, fun t ht hto => h6 t (by omega) hto, by rw [hf]; exact h7, h8⟩
  rw [← List.take_append_drop j (bls.take (j + 1)), List.flatten_append, List.take_take, Nat.min_eq_left (by omega)]
  exact List.sublist_append_left _ _
theorem sift_keep (h : SiftI w lo g off tid C x q olds bls i j wr) (hr : Rowed shNode w lo w.heap.size olds x bls) (hcap : off + olds.length ≤ C.size) (hj : j < x.length) (hq : q x[j] = true) {cs : List Value} {b : List Nat} (hb : bls[j]? = some b) (hcl : cs.length = 3) (hown : shNode.own w lo w.heap.size cs x[j] b) : SiftI w lo g off tid C x q olds bls (i + 1) (j + 1) (setCells wr g (off + i * 3) cs) := by
  have hij := sift_le h
  obtain ⟨C', news, bs, h1, h2, h3, h4, h5, h6, h7, h8⟩ := h
  have hl := hr.2.1
  have hsz : shNode.size = 3 := rfl
  rw [hsz] at hl
  have hnl := h3.2.1
  rw [hsz, ← h7] at hnl
  have hf : (x.take (j + 1)).filter q = (x.take j).filter q ++ [x[j]] := by rw [List.take_succ_eq_append_getElem hj, List.filter_append]; simp [hq]
  have hbt : bls.take (j + 1) = bls.take j ++ [b] := by
    have hlt : j < bls.length := (List.getElem?_eq_some_iff.1 hb).1
    rw [List.take_succ_eq_append_getElem hlt]
    rw [List.getElem?_eq_getElem hlt] at hb
    injection hb with hb
    rw [hb]
  refine ⟨putCells C' (off + i * 3) cs, news ++ cs, bs ++ [b], h1.sets cs _, by rw [putCells_size]; exact h2, by rw [hf]; exact h3.append (Rowed.one good_Node hown), ?_, fun t ht => ?_, fun t ht hto => ?_, by rw [hf, List.length_append, ← h7]; rfl, h8.but (But.sets cs wr _) (by simp)⟩
  · rw [hbt, List.flatten_append, List.flatten_append]
    exact h4.append (List.Sublist.refl _)
  · rw [List.length_append, hnl, hcl] at ht
    by_cases ht2 : t < i * 3
    · rw [putCells_far _ _ _ _ (.inl (by omega)), h5 t (by omega), List.getElem?_append_left (by omega)]
    · obtain ⟨r, rfl⟩ : ∃ r, t = i * 3 + r := ⟨t - i * 3, by omega⟩
      have e := putCells_at cs C' (off + i * 3) r (by rw [h2]; omega) (by omega)
      rw [← Nat.add_assoc, e, List.getElem?_append_right (by omega), hnl]
      congr 1
      omega
  · rw [putCells_far _ _ _ _ (.inr (by omega))]
    exact h6 t (by omega) hto
end
set_option maxRecDepth 100000 in
set_option maxHeartbeats 8000000 in
theorem c_DeleteFuncNode (kf : FuncId) (cap : Array Value) (eg : ∀ args w, (callFunc kf args).run Tryz.prog w = .ok (.enter kf args) w) (p : TNode → Bool) (A : Option Addr) (c : Nat) (x : TTree) (lo : Nat) (bl : List Nat) (w : World) (h : SO shNode w lo w.heap.size A c x bl) (nd : bl.Nodup)
    (hf : ∀ (W : World) (v : Value) (n : TNode), n ∈ x → Only bl w W → AV shNode W v n → Calls Tryz.prog kf (#[v] ++ cap) W (BoolP (p n) W)) :
    Calls Tryz.prog 175 #[.slice A x.length c, .func (.func kf) #[] cap] w (RowR shNode w lo (x.filter fun n => !p n) bl []) := by
  have hlen : x.length ≤ 9223372036854775807 := (h.rep good_Node).len_le
  have ci := c_IndexFuncNode kf cap eg p A c x w (SR.of_own good_Node h) (fun W v n hn hW => hf W v n hn (Only.of_up hW))
  have CI := Lib.hid ci
  have HF := Lib.hid hf
  have SOH := Lib.hid h
  have NDH := Lib.hid nd
  have hxc := h.1
  have hcm := h.2.1
  unfold maxLen at hcm
  clear ci hf nd
  go_enter Tryz.func175, Tryz.ntmps175
  go_wp2_with fail
  refine CI.out.mono ?_
  rintro e w1 ⟨n, rfl, u1, hn⟩
  rcases hn with ⟨rfl, hn⟩ | ⟨k, rfl, hk, hp, hall⟩
  · have hfil : Hid (x.filter (fun n => !p n) = x) := List.filter_eq_self.2 fun a ha => by
      rw [List.any_eq_false] at hn
      simpa using hn a ha
    clear hn
    go_wp2_with fail
    go_ret
    exact RowR.mk bl (by rw [hfil.out]) ⟨by rw [hfil.out]; exact SOH.out.up good_Node u1, NDH.out, fun y hy => .inl (by simpa using hy), Only.of_up u1⟩
  · rcases h.row with ⟨rfl, _⟩ | ⟨g, off, C, tid, bls, olds, rfl, hg1, hg2, hbk, hcap, rfl, hro, hCo⟩
    · simp at hk
    have hsz : shNode.size = 3 := rfl
    have hol : olds.length = x.length * 3 := hro.2.1
    rw [hsz] at hcap
    have hocap : off + olds.length ≤ C.size := by omega
    have s1 := Lib.hid (sift_start (q := fun n => !p n) hbk hro hCo hk (by simpa using hall) (by simp [hp]) u1)
    have HRO := Lib.hid hro
    have HBK := Lib.hid hbk
    have HCO := Lib.hid hCo
    have hgn : ¬ g ∈ bls.flatten := (List.nodup_cons.1 NDH.out).1
    have hne1 : ((k : Int) == -1) = false := beq_eq_false_iff_ne.2 (by omega)
    clear hro hbk hCo hp hall h
    go_wp2_with fail
    go_loopw [5, 6] (fun iv jv wr => ∃ i j : Nat, iv = .int .i64 i ∧ jv = .int .i64 j ∧ j ≤ x.length ∧ i < j ∧ Hid (SiftI w lo g off tid C x (fun n => !p n) olds bls i j wr)) (fun _ jv _ => x.length - (intOf jv).toNat)
    case atStart => exact ⟨k, k + 1, rfl, by go_num, by omega, by omega, s1⟩
    case round =>
      obtain ⟨i, j, rfl, rfl, hj, hij, SI⟩ := hrel
      by_cases hlt : j < x.length
      · obtain ⟨cs, b, hb, hcl, hcs, hown⟩ := HRO.out.2.2 j hlt
        obtain ⟨A2, c2, b2, rfl, hbe, o0, o1, o2⟩ := openONode hown
        obtain ⟨C', news, bs, k1, k2, k3, k4, k5, k6, k7, k8⟩ := SI.out
        rw [hsz] at hcs
        have hq : ∀ t, t < 3 → wr.cell? ⟨g, off + (j * 3 + t), none⟩ = ([.string x[j].1, .slice A2 x[j].2.1.length c2, .string x[j].2.2] : List Value)[t]? := fun t ht => by
          rw [k1.cell, k6 _ (by omega) (by omega)]
          exact hcs t ht
        have q0 : wr.cell? ⟨g, off + j * 3, none⟩ = some (.string x[j].1) := hq 0 (by omega)
        have q1 : wr.cell? ⟨g, off + j * 3 + 1, none⟩ = some (.slice A2 x[j].2.1.length c2) := hq 1 (by omega)
        have q2 : wr.cell? ⟨g, off + j * 3 + 2, none⟩ = some (.string x[j].2.2) := hq 2 (by omega)
        have hmem : x[j] ∈ x := List.getElem_mem hlt
        have hbin : ∀ y ∈ b, y < w.heap.size ∧ y ≠ g := fun y hy => ⟨(good_Node.own_in hown y hy).2, fun e => hgn (by rw [← e]; exact List.mem_flatten.2 ⟨b, List.mem_of_getElem? hb, hy⟩)⟩
        have av : ∀ W, Only [g] w W → AV shNode W (.agg #[.string x[j].1, .slice A2 x[j].2.1.length c2, .string x[j].2.2]) x[j] := fun W hW =>
          ⟨_, rfl, good_Node.wide (good_Node.own_rep (good_Node.own_keep hown (fun y hy => hW.block y (hbin y hy).1 (by simpa using (hbin y hy).2)))) (Nat.zero_le _) hW.size⟩
        have cf := fun (W : World) (hW : Only [g] w W) => HF.out W _ x[j] hmem (hW.mono (fun y hy => by obtain rfl : y = g := (by simpa using hy); simp)) (av W hW)
        have kn := Bk.new wr 119 #[.string x[j].1, .slice A2 x[j].2.1.length c2, .string x[j].2.2]
        have ua : Up wr (wr.alloc (.cells #[.string x[j].1, .slice A2 x[j].2.1.length c2, .string x[j].2.2] 119)) := (Up.refl wr).alloc _
        have on1 : Only [g] w (wr.alloc (.cells #[.string x[j].1, .slice A2 x[j].2.1.length c2, .string x[j].2.2] 119)) := k8.up ua
        have hsome : ∀ t, t < 3 → ∃ v, C'[off + (i * 3 + t)]? = some v := fun t ht => ⟨_, Array.getElem?_eq_getElem (by rw [k2]; omega)⟩
        cases hpj : p x[j]
        · obtain ⟨v0, hv0⟩ := hsome 0 (by omega)
          obtain ⟨v1, hv1⟩ := hsome 1 (by omega)
          obtain ⟨v2, hv2⟩ := hsome 2 (by omega)
          have SN : ∀ W, Up wr W → Hid (SiftI w lo g off tid C x (fun n => !p n) olds bls (i + 1) (j + 1) (setCells W g (off + i * 3) [.string x[j].1, .slice A2 x[j].2.1.length c2, .string x[j].2.2])) := fun W hW => sift_keep (sift_up SI.out hW) HRO.out hocap hlt (by simp [hpj]) hb hcl hown
          rw [hpj] at cf
          have CF := Lib.hid cf
          have SNH := Lib.hid SN
          clear cf SN hpj hq hcs hsome hown k3 k4 k5 k6 k7 av
          go_wp2_with fail
          refine (CF.out _ on1).mono ?_
          rintro e w2 ⟨rfl, u2⟩
          have kn2 := kn.up u2
          have g20 : w2.cell? ⟨wr.heap.size, 0, none⟩ = some (.string x[j].1) := kn2.cell 0
          have g21 : w2.cell? ⟨wr.heap.size, 1, none⟩ = some (.slice A2 x[j].2.1.length c2) := kn2.cell 1
          have g22 : w2.cell? ⟨wr.heap.size, 2, none⟩ = some (.string x[j].2.2) := kn2.cell 2
          have kk2 := k1.up (ua.trans u2)
          have d0 : w2.cell? ⟨g, off + i * 3, none⟩ = some v0 := (kk2.cell _).trans hv0
          have d1 : w2.cell? ⟨g, off + i * 3 + 1, none⟩ = some v1 := (kk2.cell _).trans hv1
          have d2 : w2.cell? ⟨g, off + i * 3 + 2, none⟩ = some v2 := (kk2.cell _).trans hv2
          have f0 := kk2.frozen (off + i * 3)
          have f1 := kk2.frozen (off + i * 3 + 1)
          have f2 := kk2.frozen (off + i * 3 + 2)
          go_wp2_with fail
          go_roundw
          case rel => exact ⟨i + 1, j + 1, by go_num, by go_num, by omega, by omega, SNH.out w2 (ua.trans u2)⟩
          case measure => simp [intOf]; omega
        · have SN : ∀ W, Up wr W → Hid (SiftI w lo g off tid C x (fun n => !p n) olds bls i (j + 1) W) := fun W hW => sift_drop (sift_up SI.out hW) hlt (by simp [hpj])
          rw [hpj] at cf
          have CF := Lib.hid cf
          have SNH := Lib.hid SN
          clear cf SN hpj hq hcs hsome hown k3 k4 k5 k6 k7 av
          go_wp2_with fail
          refine (CF.out _ on1).mono ?_
          rintro e w2 ⟨rfl, u2⟩
          go_wp2_with fail
          go_roundw
          case rel => exact ⟨i, j + 1, rfl, by go_num, by omega, by omega, SNH.out w2 (ua.trans u2)⟩
          case measure => simp [intOf]; omega
      · obtain rfl : j = x.length := by omega
        obtain ⟨i0, hi0, hz0, hz1, hz2⟩ := info_parts cinfo_Node
        obtain ⟨C', news, bs, k1, k2, k3, k4, k5, k6, k7, k8⟩ := SI.out
        rw [List.take_length] at k3 k7
        have hbll := HRO.out.1
        rw [List.take_of_length_le (by omega)] at k4
        have hnl : news.length = i * 3 := by rw [k3.2.1, hsz, ← k7]
        obtain ⟨vs, hvs⟩ : ∃ vs : List Value, vs = (Builtin.zeroCells (Value.agg #[.string ⟨#[]⟩, .slice none 0 0, .string ⟨#[]⟩]).cells (x.length - i)).toList := ⟨_, rfl⟩
        have hvl : vs.length = (x.length - i) * 3 := by
          rw [hvs, Array.length_toList, size_zeroCells]; rfl
        have hv1 : ∀ v ∈ vs, v.oneCell' = true := by
          intro v hv
          rw [hvs] at hv
          simp only [Builtin.zeroCells, Array.toList_map, List.mem_map] at hv
          obtain ⟨a, _, rfl⟩ := hv
          have hm : a % 3 = 0 ∨ a % 3 = 1 ∨ a % 3 = 2 := by omega
          show (((#[Value.string ⟨#[]⟩, .slice none 0 0, .string ⟨#[]⟩] : Array Value)[a % 3]!).oneCell') = true
          rcases hm with h | h | h <;> rw [h] <;> rfl
        have hrun : ∀ ty, (Builtin.clear_ #[31] ty #[.slice (some ⟨g, off + i * 3, none⟩) (x.length - i) (c - i)]).run Tryz.prog wr = .ok (.tuple #[]) (setCells wr g (off + i * 3) vs) := fun ty =>
          run_clear_cells (P := Tryz.prog) wr 31 119 ty i0 _ Tryz.underlying31 hi0 hz0 g (off + i * 3) (x.length - i) (c - i) (by omega) vs hvs
            (fun t ht => by rw [k1.cell, Array.getElem?_eq_getElem (by omega)]; rfl) (fun t ht => k1.frozen _) hv1
        have hbut := But.sets (g := g) vs wr (off + i * 3)
        have k1' := k1.sets vs (off + i * 3)
        have hon : Only [g] w (setCells wr g (off + i * 3) vs) := k8.but hbut (by simp)
        have hfin : Hid (rowP shNode w lo (x.filter fun n => !p n) (g :: bls.flatten) [] (some ⟨g, off, none⟩) c (g :: bs.flatten) (setCells wr g (off + i * 3) vs)) := by
          have hgb : g ∉ bs.flatten := fun hm => hgn (k4.mem hm)
          have hin := k3.in_ good_Node
          have hro3 := (k3.keep (w' := setCells wr g (off + i * 3) vs) good_Node (fun y hy => hon.block y (hin y hy).2 (by simp; intro e; exact hgb (by rw [← e]; exact hy)))).wide good_Node (Nat.le_refl _) hon.size
          refine ⟨SO.of_row (C := putCells C' (off + i * 3) vs) hg1 (Nat.lt_of_lt_of_le hg2 hon.size) k1' (by rw [hsz, putCells_size, k2]; exact hcap) (by rw [← k7]; omega) (by unfold maxLen; exact hcm) hro3 (fun t ht => ?_), List.nodup_cons.2 ⟨hgb, (List.nodup_cons.1 NDH.out).2.sublist k4⟩, fun y hy => ?_, hon.mono (fun y hy => by obtain rfl : y = g := (by simpa using hy); simp)⟩
          · rw [putCells_far _ _ _ _ (.inl (by omega))]
            exact k5 t ht
          · rcases List.mem_cons.1 hy with rfl | hy
            · exact .inl (by simp)
            · exact .inl (by simp [k4.mem hy])
        have K7 := Lib.hid k7
        have hci : ¬ (c = i) := by omega
        have hil : i ≤ x.length := by omega
        obtain ⟨W2, hW2⟩ : ∃ W2, W2 = setCells wr g (off + i * 3) vs := ⟨_, rfl⟩
        rw [← hW2] at hrun hfin
        clear hW2 hbut k1' hon k1 k3 k4 k5 k6 k7 k8 hvs hv1 hvl hnl SI
        go_wp2_with (at_builtin; refine wpList_clear_run _ rfl _ 31 rfl _ rfl (hrun _) ?_)
        go_ret
        exact RowR.mk _ K7.out.symm hfin.out
end Go.Proofs.YtehhgogmbpdpbaaGreatDoor
