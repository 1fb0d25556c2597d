/-
  kill and ChangeOk: both sides.
-/
import Derived.Test.YtehhgogmbpdpbaaGreatDoorM1Kg
namespace Go.Proofs.YtehhgogmbpdpbaaGreatDoor
open Go.RowKit
set_option linter.unusedVariables false
set_option linter.unusedSimpArgs false

set_option maxHeartbeats 4000000 in
theorem c_kill1 (n : TNode) (v : Value) (s : ByteArray) (ys : List ByteArray) (B : Option Addr) (d bn bs : Nat) (w : World) (h : AV shNode w v n) (k : SRW shS w B d ys) (k1 : Bk w bn 9 #[.string s]) (k2 : Bk w bs 65 #[.slice B ys.length d]) :
    Calls Tryz.prog 176 (#[v] ++ #[.pointer (some ⟨bn, 0, none⟩), .pointer (some ⟨bs, 0, none⟩)]) w (BoolP (atB n (s, ys)) w) := by
  have hv := h
  obtain ⟨cs, rfl, h⟩ := h
  obtain ⟨x0, x1, x2⟩ := n
  obtain ⟨A1, c1, rfl, b0, b1, b2⟩ := openNode h
  dsimp only at b0 b1 b2
  clear h
  have uu : Up w (w.alloc (.cells #[.string x0, .slice A1 x1.length c1, .string x2] 119)) := (Up.refl w).alloc _
  have e1 := (k1.up uu).cell 0
  have e2 := (k2.up uu).cell 0
  have g1 := k1.cell 0
  have g2 := k2.cell 0
  have ca := fun W (hW : Up w W) => c_atOrBelow (x0, x1, x2) _ s ys B d W (hv.up good_Node hW) (k.up good_S hW)
  have CA := Lib.hid ca
  clear ca hv
  go_enter Tryz.func176, Tryz.ntmps176
  go_wp2_with fail
  refine (CA.out _ uu).mono ?_
  rintro e w1 ⟨rfl, u1⟩
  go_wp2_with fail
  go_ret
  exact ⟨rfl, uu.trans u1⟩
set_option maxRecDepth 100000 in
set_option maxHeartbeats 8000000 in
theorem c_kill (g : Nat) (x : TTree) (bl : List Nat) (lo : Nat) (w : World) (h : OT lo w g x bl) (hlo : lo ≤ w.heap.size) (s : ByteArray) (ys : List ByteArray) (B : Option Addr) (d : Nat) (k : SR shS w 0 lo B d ys) :
    Calls Tryz.prog 128 #[.pointer (some ⟨g, 0, none⟩), .string s, .slice B ys.length d] w fun e w' => e = .returned (.tuple #[]) ∧ OTp lo w g bl (killT x (s, ys)) w' := by
  have hin := h.in_
  have hgl := h.lt
  obtain ⟨A, c, hk, so, nd, hg⟩ := h
  obtain ⟨W0, hW0⟩ : ∃ W0, W0 = ((w.alloc (.cells #[.string s] 9)).alloc (.cells #[.slice B ys.length d] 65)) := ⟨_, rfl⟩
  have u0 : Up w W0 := by rw [hW0]; exact ((Up.refl w).alloc _).alloc _
  have k1 : Bk W0 w.heap.size 9 #[.string s] := by rw [hW0]; exact (Bk.new _ _ _).alloc _
  have k2 : Bk W0 (w.heap.size + 1) 65 #[.slice B ys.length d] := by rw [hW0]; simpa using Bk.new (w.alloc (.cells #[.string s] 9)) 65 #[.slice B ys.length d]
  have cd := c_DeleteFuncNode 176 #[.pointer (some ⟨w.heap.size, 0, none⟩), .pointer (some ⟨w.heap.size + 1, 0, none⟩)] (fun _ _ => rfl) (fun n => atB n (s, ys)) A c x lo bl W0 (so.up good_Node u0) nd
    (fun W v n hn hW hav => c_kill1 n v s ys B d _ _ W hav ((k.keep good_S (fun b _ hb => (hW.block b (by have := u0.size; omega) (fun hm => by have := (hin b hm).1; omega)).trans (u0.block b (by omega)))).wide good_S (Nat.le_refl _) (by have := hW.size; have := u0.size; omega))
      (k1.only hW (fun hm => by have := (hin _ hm).2; omega)) (k2.only hW (fun hm => by have := (hin _ hm).2; omega)))
  rw [show (x.filter fun n => !atB n (s, ys)) = killT x (s, ys) from rfl] at cd
  have CD := Lib.hid cd
  have g0 := (hk.up u0).cell 0
  have hk0 := hk.up u0
  rw [hW0] at g0
  clear cd k1 k2 so k
  go_enter Tryz.func128, Tryz.ntmps128
  go_wp2_with fail
  rw [← hW0]
  refine CD.out.mono ?_
  rintro e w1 ⟨D, d1, bl1, rfl, so1, nd1, mem1, on1⟩
  have hk1 := hk0.only on1 hg
  have g1 := hk1.cell 0
  have f1 := hk1.frozen 0
  clear hW0
  go_wp2_with fail
  have hmem : ∀ y ∈ bl1, y ∈ bl ∨ w.heap.size ≤ y := fun y hy => by
    rcases mem1 y hy with h | h
    · exact .inl (by simpa using h)
    · exact .inr (Nat.le_trans u0.size h)
  have hg1 : g ∉ bl1 := fun hm => by
    rcases hmem g hm with h | h
    · exact hg h
    · omega
  have hbut := But.set w1 g 0 (.slice D (killT x (s, ys)).length d1)
  refine bodyPost_end (v := .tuple #[]) (by simp [results, Tryz.results128, go_sem]) (by rfl) ?_
  refine ⟨rfl, bl1, ⟨D, d1, ?_, ?_, nd1, hg1⟩, hmem, (((Only.of_up u0).trans (on1.mono (fun y hy => List.mem_cons_of_mem _ hy))).but hbut (by simp))⟩
  · simpa using hk1.set 0 (.slice D (killT x (s, ys)).length d1)
  · rw [hbut.size]
    exact so1.keep good_Node (fun y hy => hbut.block y (fun e => hg1 (by rw [← e]; exact hy)))
set_option maxRecDepth 100000 in
set_option maxHeartbeats 8000000 in
theorem c_l03Kill (x : TTree) (v : Value) (s : ByteArray) (ys : List ByteArray) (B : Option Addr) (d : Nat) (w : World) (h : AV shTree w v x) (k : SRW shS w B d ys) (hx : x.length ≤ 1000000) (hl : ∀ i (h : i < x.length), x[i].2.1.length ≤ 1048576) :
    Calls Tryz.prog 170 #[v, .string s, .slice B ys.length d] w (ToV shTree (killT x (s, ys)) w) := by
  obtain ⟨i0, hi0, hz0, hz1, hz2⟩ := info_parts cinfo_Node
  obtain ⟨cs, rfl, h⟩ := h
  obtain ⟨A0, c0, rfl, b00⟩ := openTree h
  clear h
  have hlen := b00.len_le
  have hmul1 : (x.length + 1) * i0.bytes ≤ 140737488355328 := by rw [hz2]; omega
  obtain ⟨W0, hW0⟩ : ∃ W0, W0 = (((w.alloc (.cells #[.slice A0 x.length c0] 33)).alloc (.cells #[.slice none 0 0] 33))) := ⟨_, rfl⟩
  have u0 : Up w W0 := by rw [hW0]; exact ((Up.refl w).alloc _).alloc _
  have ka0 : Bk W0 w.heap.size 33 #[.slice A0 x.length c0] := by rw [hW0]; exact (Bk.new _ _ _).alloc _
  have kr0 : Bk W0 (w.heap.size + 1) 33 #[.slice none 0 0] := by rw [hW0]; simpa using Bk.new (w.alloc (.cells #[.slice A0 x.length c0] 33)) 33 #[.slice none 0 0]
  have hs0 : W0.heap.size = w.heap.size + 2 := by rw [hW0]; simp
  have gR := good_Ref (w0 := w) good_Node
  have HL := Lib.hid hl
  clear hl
  go_enter Tryz.func170, Tryz.ntmps170
  go_wp2_with fail
  rw [← hW0]
  clear hW0
  go_loopw [7, 8] (fun o i wr => ∃ (k : Nat) (D : Option Addr) (d : Nat) (X : TTree) (bl : List Nat), k ≤ x.length ∧ Hid (X = (x.take k).filter fun n => !atB n (s, ys)) ∧ X.length ≤ k ∧ i = .int .i64 k ∧ o = .slice D X.length d ∧ SO (shRef w shNode) wr (w.heap.size + 2) wr.heap.size D d X bl ∧ bl.Nodup ∧ Up W0 wr) (fun _ i _ => x.length - (intOf i).toNat)
  case atStart => exact ⟨0, _, 0, [], [], Nat.zero_le _, rfl, Nat.zero_le _, rfl, rfl, ⟨Nat.le_refl _, Nat.zero_le _, .inl ⟨rfl, rfl, rfl⟩⟩, by simp, (Up.refl W0).alloc _⟩
  case round =>
    obtain ⟨j, D, d', X, bl, hj, HX, hXl, rfl, rfl, so, nd, hu⟩ := hrel
    have uw := u0.trans hu
    have ka := ka0.up hu
    have ga : wr.cell? ⟨w.heap.size, 0, none⟩ = some (.slice A0 x.length c0) := ka.cell 0
    by_cases hlt : j < x.length
    · obtain ⟨g, off, A2, c2, rfl, _, hgl, hc0, hc1, hc2, b0, b1, b2, _⟩ := atNode b00 hlt
      have q0 := (uw.cell (cell_lt hc0)).trans hc0
      have q1 := (uw.cell (cell_lt hc1)).trans hc1
      have q2 := (uw.cell (cell_lt hc2)).trans hc2
      have av : ∀ W, Up wr W → AV shNode W (.agg #[.string x[j].1, .slice A2 x[j].2.1.length c2, .string x[j].2.2]) x[j] := fun W hW => AV.up good_Node ⟨_, rfl, mkNode (x := x[j]) b0 b1 b2⟩ (uw.trans hW)
      have cin := fun W (hW : Up wr W) => c_l03In x[j] _ s ys B d W (av W hW) (k.up good_S (uw.trans hW))
      have HTK : (x.take (j + 1)).filter (fun n => !atB n (s, ys)) = X ++ (if atB x[j] (s, ys) = true then [] else [x[j]]) := by
        rw [List.take_succ_eq_append_getElem hlt, List.filter_append, ← HX.out]
        by_cases hb : atB x[j] (s, ys) = true <;> simp [hb]
      have own1 : (shRef w shNode).own w (w.heap.size + 2) w.heap.size [.string x[j].1, .slice A2 x[j].2.1.length c2, .string x[j].2.2] x[j] [] := ⟨mkNode (x := x[j]) b0 b1 b2, rfl⟩
      have SOH := Lib.hid so
      have hin := so.in_ gR
      cases hb : atB x[j] (s, ys)
      · rw [hb] at cin
        rw [hb] at HTK
        have HTK' : Hid ((x.take (j + 1)).filter (fun n => !atB n (s, ys)) = X ++ [x[j]]) := HTK
        have CIN := Lib.hid cin
        clear cin HTK hb so av
        go_wp2_with fail
        refine (CIN.out _ (Up.refl _)).mono ?_
        rintro e w1 ⟨rfl, u1⟩
        have ga1 : w1.cell? ⟨w.heap.size, 0, none⟩ = some (.slice (some ⟨g, off, none⟩) x.length c0) := (ka.up u1).cell 0
        have p0 := (u1.cell (cell_lt q0)).trans q0
        have p1 := (u1.cell (cell_lt q1)).trans q1
        have p2 := (u1.cell (cell_lt q2)).trans q2
        have so1 := SOH.out.up gR (u1.alloc (.cells #[.string x[j].1, .slice A2 x[j].2.1.length c2, .string x[j].2.2] 119))
        have kb : Bk (w1.alloc (.cells #[.string x[j].1, .slice A2 x[j].2.1.length c2, .string x[j].2.2] 119)) w1.heap.size 119 #[.string x[j].1, .slice A2 x[j].2.1.length c2, .string x[j].2.2] := Bk.new _ _ _
        have ro : Rowed (shRef w shNode) (w1.alloc (.cells #[.string x[j].1, .slice A2 x[j].2.1.length c2, .string x[j].2.2] 119)) (w.heap.size + 2) (w1.alloc (.cells #[.string x[j].1, .slice A2 x[j].2.1.length c2, .string x[j].2.2] 119)).heap.size [.string x[j].1, .slice A2 x[j].2.1.length c2, .string x[j].2.2] [x[j]] [[]] := Rowed.one gR own1
        have nd' : (bl ++ [([] : List Nat)].flatten).Nodup := by simpa using nd
        have hx1 : (X.length + [x[j]].length) * i0.bytes ≤ 140737488355328 := Nat.le_trans (Nat.mul_le_mul_right _ (by simp; omega)) hmul1
        have hx2 : X.length + [x[j]].length ≤ maxLen := by simp; unfold maxLen; omega
        have hlo : w.heap.size + 2 ≤ (w1.alloc (.cells #[.string x[j].1, .slice A2 x[j].2.1.length c2, .string x[j].2.2] 119)).heap.size := by have h1 := hu.size; have h2 := u1.size; simp; omega
        go_wp2_with (first
          | (at_builtin
             refine wpList_app (good_Ref (w0 := w) good_Node) rfl _ _ _ _ 119 rfl i0 _ Tryz.underlying31 hi0 hz0 hz1 (by rfl) (lo := w.heap.size + 2) (xs := X) (ys := [x[j]]) (bl := bl) (bs := [[]]) (news := [.string x[j].1, .slice A2 x[j].2.1.length c2, .string x[j].2.2]) rfl rfl so1 nd' (Src.box (t := 119) (cs := [.string x[j].1, .slice A2 x[j].2.1.length c2, .string x[j].2.2]) Tryz.underlying31 kb (by simp [Value.oneCell']) (by rw [hz1]; rfl)) ro hlo hx1 hx2 ?_
             intro D' d2 bl' w2 hap
             obtain ⟨so2, nd2, mem2, on2⟩ := hap))
        go_roundw
        case rel =>
          refine ⟨j + 1, D', d2, X ++ [x[j]], bl', by omega, HTK'.out.symm, by simp; omega, by go_num, by simp, so2, nd2, ?_⟩
          exact Up.only ((hu.trans u1).alloc _) on2 (fun y hy => by have := (hin y hy).1; omega)
        case measure => simp [intOf]; omega
      · rw [hb] at cin
        rw [hb] at HTK
        have HTK' : Hid ((x.take (j + 1)).filter (fun n => !atB n (s, ys)) = X) := by unfold Hid; simpa using HTK
        have CIN := Lib.hid cin
        clear cin HTK hb so av
        go_wp2_with fail
        refine (CIN.out _ (Up.refl _)).mono ?_
        rintro e w1 ⟨rfl, u1⟩
        go_wp2_with fail
        go_roundw
        case rel => exact ⟨j + 1, D, d', X, bl, by omega, HTK'.out.symm, by omega, by go_num, rfl, SOH.out.up gR u1, nd, hu.trans u1⟩
        case measure => simp [intOf]; omega
    · obtain rfl : j = x.length := by omega
      have hKX : X = killT x (s, ys) := by rw [HX.out, List.take_length]; rfl
      have hXs : ∀ i (h : i < X.length), X[i].2.1.length ≤ 1048576 := fun i hi => by
        have hm := List.getElem_mem hi
        generalize X[i] = n at hm
        rw [HX.out] at hm
        obtain ⟨q, hq, rfl⟩ := List.getElem_of_mem (List.mem_of_mem_take (List.mem_filter.1 hm).1)
        exact HL.out q hq
      have co := c_l03Own X D d' wr (SR.unref good_Node (so.rep gR) uw) (by omega) hXs
      have CO := Lib.hid co
      have HK := Lib.hid hKX
      clear co hXs hKX HX so
      go_wp2_with fail
      refine CO.out.mono ?_
      rintro e w1 ⟨D1, d1, bl1, rfl, o1, nd1, u1⟩
      have kr1 := (kr0.up hu).up u1
      have gr1 := kr1.cell 0
      have fr1 := kr1.frozen 0
      have hws := uw.size
      have hk0 := (kr0.up hu).lt
      go_wp2_with fail
      have z4 := (o1.set good_Node (w.heap.size + 1) 0 [.slice D1 X.length d1] hk0).wide good_Node (lo' := w.heap.size) (by omega) (Nat.le_refl _)
      refine bodyPost_ret (v := .agg #[.slice D1 X.length d1]) (by simp [results, Tryz.results170, go_sem, gr1]) rfl ?_
      rw [← HK.out]
      exact ⟨[.slice D1 X.length d1], bl1, rfl, mkOTree z4, nd1, (uw.trans u1).setCell (by simp) _⟩
end Go.Proofs.YtehhgogmbpdpbaaGreatDoor
