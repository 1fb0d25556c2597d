/-
  Copies of nodes and trees: the program's copyNode, copyTree; the reference's l03Subs, l03Own.
-/
import Derived.Test.YtfehlcbaalbajaaGreatDoorGo
import Derived.Test.YtfehlcbaalbajaaGreatDoorTp
import Derived.Test.YtfehlcbaalbajaaGreatDoorSn
import Derived.Test.YtfehlcbaalbajaaGreatDoorCl
import Derived.Deep.RegionHeld3
namespace Go.Proofs.YtfehlcbaalbajaaGreatDoor
open Go.RowKit
set_option linter.unusedVariables false
set_option linter.unusedSimpArgs false

set_option maxRecDepth 100000 in
set_option maxHeartbeats 4000000 in
theorem c_copyNode (v : Value) (x : TNode) (w : World) (h : AV shNode w v x) (hl : x.2.1.length ≤ 1048576) : Calls Tryz.prog 115 #[v] w (ToV shNode x w) := by
  obtain ⟨cs, rfl, h⟩ := h
  obtain ⟨x0, x1, x2⟩ := x
  obtain ⟨A1, c1, rfl, b0, b1, b2⟩ := openNode h
  dsimp only at b0 b1 b2 hl ⊢
  clear h
  have ja0 : Bk ((w.alloc (.cells #[.string x0, .slice A1 x1.length c1, .string x2] 155)).alloc (.cells #[.string ⟨#[]⟩, .slice none 0 0, .string ⟨#[]⟩] 155)) w.heap.size 155 #[.string x0, .slice A1 x1.length c1, .string x2] := (Bk.new _ _ _).alloc _
  have jr0 : Bk ((w.alloc (.cells #[.string x0, .slice A1 x1.length c1, .string x2] 155)).alloc (.cells #[.string ⟨#[]⟩, .slice none 0 0, .string ⟨#[]⟩] 155)) (w.heap.size + 1) 155 #[.string ⟨#[]⟩, .slice none 0 0, .string ⟨#[]⟩] := by simpa using (Bk.new (w.alloc (.cells #[.string x0, .slice A1 x1.length c1, .string x2] 155)) 155 #[.string ⟨#[]⟩, .slice none 0 0, .string ⟨#[]⟩])
  have vv0 : Up w ((w.alloc (.cells #[.string x0, .slice A1 x1.length c1, .string x2] 155)).alloc (.cells #[.string ⟨#[]⟩, .slice none 0 0, .string ⟨#[]⟩] 155)) := ((Up.refl _).alloc _).alloc _
  go_enter Tryz.func115, Tryz.ntmps115
  go_wp2_with fail
  refine (c_CloneStringS x1 A1 c1 _ (b1.up good_S vv0) hl).mono ?_
  rintro e w1 ⟨D1, d1, bl1, rfl, o1, nd1, u1⟩
  have ka := ja0.up u1
  have kr := jr0.up u1
  have g0 : w1.cell? ⟨w.heap.size, 0, none⟩ = some (.string x0) := ka.cell 0
  have g1 : w1.cell? ⟨w.heap.size, 1, none⟩ = some (.slice A1 x1.length c1) := ka.cell 1
  have g2 : w1.cell? ⟨w.heap.size, 2, none⟩ = some (.string x2) := ka.cell 2
  have f1 := ka.frozen 1
  have r0 : w1.cell? ⟨w.heap.size + 1, 0, none⟩ = some (.string ⟨#[]⟩) := kr.cell 0
  have r1 : w1.cell? ⟨w.heap.size + 1, 1, none⟩ = some (.slice none 0 0) := kr.cell 1
  have r2 : w1.cell? ⟨w.heap.size + 1, 2, none⟩ = some (.string ⟨#[]⟩) := kr.cell 2
  have fr0 := kr.frozen 0
  have fr1 := kr.frozen 1
  have fr2 := kr.frozen 2
  have hk := kr.lt
  have uu := vv0.trans u1
  have hsz : w.heap.size + 1 + 1 ≤ ((w.alloc (.cells #[.string x0, .slice A1 x1.length c1, .string x2] 155)).alloc (.cells #[.string ⟨#[]⟩, .slice none 0 0, .string ⟨#[]⟩] 155)).heap.size := by simp
  have p1 := o1.wide good_S (lo' := w.heap.size + 1 + 1) hsz (Nat.le_refl _)
  clear o1
  go_wp2_with fail
  have z1 := p1.set good_S w.heap.size 1 [.slice D1 x1.length d1] (by omega)
  have z2 := z1.set good_S (w.heap.size + 1) 0 [.string x0, .slice D1 x1.length d1, .string x2] (by omega)
  have fu1 := uu.sets (g := w.heap.size) (Nat.le_refl _) 1 [.slice D1 x1.length d1]
  have fu2 := fu1.sets (g := w.heap.size + 1) (by omega) 0 [.string x0, .slice D1 x1.length d1, .string x2]
  refine bodyPost_ret (v := .agg #[.string x0, .slice D1 x1.length d1, .string x2]) (by simp [results, Tryz.results115, go_sem, r0, r1, r2]) rfl ?_
  exact ⟨[.string x0, .slice D1 x1.length d1, .string x2], _, rfl, mkONode (x := (x0, x1, x2)) b0 (z2.wide good_S (lo' := w.heap.size) (by omega) (Nat.le_refl _)) b2, nd1, fu2⟩
theorem cells4 {w : World} {g1 g2 : Nat} {t1 t2 : TypeId} {a b c d : Value} (h1 : Bk w g1 t1 #[a]) (h2 : Bk w g2 t2 #[b, c, d]) : w.cell? ⟨g1, 0, none⟩ = some a ∧ w.cell? ⟨g2, 0, none⟩ = some b ∧ w.cell? ⟨g2, 1, none⟩ = some c ∧ w.cell? ⟨g2, 2, none⟩ = some d := ⟨h1.cell 0, h2.cell 0, h2.cell 1, h2.cell 2⟩
set_option maxRecDepth 100000 in
set_option maxHeartbeats 8000000 in
theorem c_copyTree (v : Value) (x : TTree) (w : World) (h : AV shTree w v x) (hx : x.length ≤ 1000000) (hl : ∀ i (h : i < x.length), x[i].2.1.length ≤ 1048576) : Calls Tryz.prog 111 #[v] w (ToV shTree x w) := by
  obtain ⟨i0, hi0, hz0, hz1, hz2⟩ := info_parts cinfo_Node
  obtain ⟨cs, rfl, h⟩ := h
  obtain ⟨A0, c0, rfl, b00⟩ := openTree h
  clear h
  have HL := Lib.hid hl
  clear hl
  have hlen := b00.len_le
  have vv0 : Up w ((((w.alloc (.cells #[.slice A0 x.length c0] 33)).alloc (.cells #[.slice none 0 0] 33))).alloc (.cells #[.slice none 0 0] 33)) := (((Up.refl _).alloc _).alloc _).alloc _
  obtain ⟨W0, hW0⟩ : ∃ W0, W0 = ((((w.alloc (.cells #[.slice A0 x.length c0] 33)).alloc (.cells #[.slice none 0 0] 33))).alloc (.cells #[.slice none 0 0] 33)) := ⟨_, rfl⟩
  have hs0 : W0.heap.size = w.heap.size + 3 := by rw [hW0]; simp
  have jr0 : Bk W0 (w.heap.size + 1) 33 #[.slice none 0 0] := by
    rw [hW0]
    have := (Bk.new (w.alloc (.cells #[.slice A0 x.length c0] 33)) 33 #[.slice none 0 0]).alloc (.cells #[.slice none 0 0] 33)
    simpa using this
  have jo0 : Bk W0 (w.heap.size + 1 + 1) 33 #[.slice none 0 0] := by
    rw [hW0]
    have := Bk.new ((w.alloc (.cells #[.slice A0 x.length c0] 33)).alloc (.cells #[.slice none 0 0] 33)) 33 #[.slice none 0 0]
    simpa using this
  go_enter Tryz.func111, Tryz.ntmps111
  go_wp2_with fail
  rw [← hW0]
  rw [← hW0] at vv0
  clear hW0
  go_loopw [10] (fun i wr => ∃ (k : Nat) (D : Option Addr) (d : Nat) (bl : List Nat), k ≤ x.length ∧ i = .int .i64 k ∧ Bk wr (w.heap.size + 1) 33 #[.slice none 0 0] ∧ Bk wr (w.heap.size + 1 + 1) 33 #[.slice D k d] ∧ SO shNode wr (w.heap.size + 3) wr.heap.size D d (x.take k) bl ∧ bl.Nodup ∧ Up w wr ∧ w.heap.size + 3 ≤ wr.heap.size) (fun i _ => x.length - (intOf i).toNat)
  case atStart => exact ⟨0, none, 0, [], Nat.zero_le _, rfl, jr0, jo0, by simpa using SO.nil _ _ _, by simp, vv0, by omega⟩
  case round =>
    obtain ⟨k, D, d, bl, hk, rfl, kr, ko, so, nd, hu, hsz⟩ := hrel
    by_cases hlt : k < x.length
    · have hl := HL.out k hlt
      obtain ⟨g, off, A2, c2, rfl, _, hgl, hc0, hc1, hc2, b0, b1, b2, _⟩ := atNode (b00.up good_Node hu) hlt
      have HTK : Hid (x.take (k + 1) = x.take k ++ [x[k]]) := List.take_succ_eq_append_getElem hlt
      have htk : (x.take k).length = k := by rw [List.length_take]; omega
      obtain ⟨X, hX⟩ : ∃ X, X = x.take k := ⟨_, rfl⟩
      rw [← hX] at so htk HTK
      clear hX
      obtain ⟨⟨x0, x1, x2⟩, hxk⟩ : ∃ q, q = x[k] := ⟨_, rfl⟩
      rw [← hxk] at hl hc0 hc1 hc2 b0 b1 b2 HTK
      have HXK := Lib.hid hxk
      clear hxk
      dsimp only at hl hc0 hc1 hc2 b0 b1 b2
      have av : ∀ W, Up wr W → AV shNode W (.agg #[.string x0, .slice A2 x1.length c2, .string x2]) (x0, x1, x2) := fun W hW => AV.up good_Node ⟨_, rfl, mkNode (x := (x0, x1, x2)) b0 b1 b2⟩ hW
      have kn0 : Bk (wr.alloc (.cells #[.string x0, .slice A2 x1.length c2, .string x2] 155)) wr.heap.size 155 #[.string x0, .slice A2 x1.length c2, .string x2] := Bk.new _ _ _
      have ko0 := ko.alloc (.cells #[.string x0, .slice A2 x1.length c2, .string x2] 155)
      have kr0 := kr.alloc (.cells #[.string x0, .slice A2 x1.length c2, .string x2] 155)
      have uq : Up wr (wr.alloc (.cells #[.string x0, .slice A2 x1.length c2, .string x2] 155)).drew := ((Up.refl wr).alloc _).drew
      have hx1 : (X.length + 1) * i0.bytes ≤ 140737488355328 := by rw [hz2]; omega
      have hx2 : X.length + 1 ≤ maxLen := by unfold maxLen; omega
      have gN0 := kn0.cell 0
      have gN1 := kn0.cell 1
      have gN2 := kn0.cell 2
      have gO := ko0.cell 0
      have fO := ko0.frozen 0
      have hin := so.in_ good_Node
      have hnd : ∀ be : List Nat, be.Nodup → (∀ y ∈ be, wr.heap.size ≤ y) → (bl ++ [be].flatten).Nodup := fun be h1 h2 => by
        simpa using nodup_two (m := wr.heap.size) nd h1 (fun y hy => (hin y hy).2) h2
      have hgo : w.heap.size + 1 + 1 ∉ bl := fun hm => by have := (hin _ hm).1; omega
      have hgr : w.heap.size + 1 ∉ bl := fun hm => by have := (hin _ hm).1; omega
      have hgn : wr.heap.size ∉ bl := fun hm => by have := (hin _ hm).2; omega
      have SOH := Lib.hid so
      clear so nd
      go_wp2_with fail
      go_region_law
        (first
          | (go_simp
             go_at_call 115
             (with_reducible refine (c_copyNode _ (x0, x1, x2) _ (av _ uq) hl).mono ?_)
             rintro e w1 ⟨csn, bln, rfl, on, ndn, un⟩
             obtain ⟨E1, e1, _, rfl, rfl, o0, o1, o2⟩ := openONode on
             have ko1 := ko0.drew.up un
             have kn1 := kn0.drew.up un
             have kr1 := kr0.drew.up un
             have gO1 := ko1.cell 0
             have gO1b := (ko1.alloc (.cells #[.string x0, .slice E1 x1.length e1, .string x2] 155)).cell 0
             have nb := hnd _ ndn (fun y hy => Nat.le_trans (by simp) (good_Node.own_in on y hy).1)
             have ro : ∀ W, Up w1 W → Rowed shNode W (w.heap.size + 3) W.heap.size [.string x0, .slice E1 x1.length e1, .string x2] [(x0, x1, x2)] [bln] := fun W hW => Rowed.one good_Node (good_Node.own_wide (own_up good_Node on hW) (Nat.le_trans hsz (by simp)) (Nat.le_refl _))
             have s1 : ∀ W, Up w1 W → SO shNode W (w.heap.size + 3) W.heap.size D d X bl := fun W hW => SOH.out.up good_Node ((uq.trans un).trans hW)
             have hs1 : ∀ W, Up w1 W → w.heap.size + 3 ≤ W.heap.size := fun W hW => Nat.le_trans hsz ((uq.trans un).trans hW).size)
          | (refine step_app good_Node rfl _ _ _ _ 155 rfl i0 _ Tryz.underlying31 hi0 hz0 hz1 (by rfl) (lo := w.heap.size + 3) (xs := X) (ys := [(x0, x1, x2)]) (bl := bl) (bs := [bln]) (news := [.string x0, .slice E1 x1.length e1, .string x2]) (by rw [htk]; rfl) rfl (s1 _ ((Up.refl w1).alloc _)) nb (Src.box (t := 155) (cs := [.string x0, .slice E1 x1.length e1, .string x2]) Tryz.underlying31 (Bk.new w1 155 #[.string x0, .slice E1 x1.length e1, .string x2]) (by simp [Value.oneCell']) (by rw [hz1]; rfl)) (ro _ ((Up.refl w1).alloc _)) (hs1 _ ((Up.refl w1).alloc _)) hx1 hx2 ?_
             intro D' d' bl' w2 hap
             obtain ⟨so2, nd2, mem2, on2⟩ := hap
             have ko2 := (ko1.alloc (.cells #[.string x0, .slice E1 x1.length e1, .string x2] 155)).only on2 hgo
             have kr2 := (kr1.alloc (.cells #[.string x0, .slice E1 x1.length e1, .string x2] 155)).only on2 hgr
             have kn2 := (kn1.alloc (.cells #[.string x0, .slice E1 x1.length e1, .string x2] 155)).only on2 hgn
             have gO2 := ko2.cell 0
             have fO2 := ko2.frozen 0))
      all_goals
        go_wp2_with fail
        have hs2 : w.heap.size + 3 ≤ w2.heap.size := Nat.le_trans (hs1 _ ((Up.refl w1).alloc _)) on2.size
        have hu2 : Up w w2 := Up.only (((hu.trans uq).trans un).alloc (.cells #[.string x0, .slice E1 x1.length e1, .string x2] 155)) on2 (fun y hy => by have := (hin y hy).1; omega)
        go_roundw
        case rel =>
          refine ⟨k + 1, D', d', bl', by omega, by go_num, kr2.far (by simp) _, by simpa using ko2.set 0 (.slice D' (k + 1) d'), ?_, nd2, hu2.setCell (by simp; omega) _, by simpa [World.setCell] using hs2⟩
          rw [HTK.out]
          exact so2.set good_Node (w.heap.size + 1 + 1) 0 [.slice D' (k + 1) d'] (by omega)
        case measure => simp [intOf]; omega
    · obtain rfl : k = x.length := by omega
      rw [List.take_length] at so
      have gO := ko.cell 0
      have gR := kr.cell 0
      have fR := kr.frozen 0
      go_wp2_with fail
      have hz := (so.set good_Node (w.heap.size + 1) 0 [.slice D x.length d] (by omega)).wide good_Node (lo' := w.heap.size) (by omega) (Nat.le_refl _)
      refine bodyPost_ret (v := .agg #[.slice D x.length d]) (by simp [results, Tryz.results111, go_sem, gR]) rfl ?_
      exact ⟨[.slice D x.length d], bl, rfl, mkOTree hz, nd, hu.setCell (by simp) _⟩
end Go.Proofs.YtfehlcbaalbajaaGreatDoor
