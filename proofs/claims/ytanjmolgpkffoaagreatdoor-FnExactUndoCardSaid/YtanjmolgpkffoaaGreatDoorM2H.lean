/-
  Copies of nodes and trees: the program's copyNode, copyTree; the reference's l03Subs, l03Own.
  The reference's copies: l03Subs, l03Own.
  KeyPlace, both; isKey.
  Keys of pages: keysOk, l15Keys.
  Images: what both sides ask of them; the program's side.
-/
import Derived.Test.YtanjmolgpkffoaaGreatDoorM2G
import Derived.Test.YtanjmolgpkffoaaGreatDoorM2F
import Derived.Deep.RegionHeld3
import Derived.Lib.IndexMore
import Derived.Test.YtanjmolgpkffoaaGreatDoorM2E
namespace Go.Proofs.YtanjmolgpkffoaaGreatDoor
open Go.RowKit
set_option linter.unusedVariables false
set_option linter.unusedSimpArgs false

set_option maxRecDepth 100000 in
set_option maxHeartbeats 4000000 in
theorem c_copyNode (v : Value) (x : TNode) (w : World) (h : AV shNode w v x) (hl : x.2.1.length ≤ 1048576) : Calls Tryz.prog 116 #[v] w (ToV shNode x w) := by
  obtain ⟨cs, rfl, h⟩ := h
  obtain ⟨x0, x1, x2⟩ := x
  obtain ⟨A1, c1, rfl, b0, b1, b2⟩ := openNode h
  dsimp only at b0 b1 b2 hl ⊢
  clear h
  have ja0 : Bk ((w.alloc (.cells #[.string x0, .slice A1 x1.length c1, .string x2] 91)).alloc (.cells #[.string ⟨#[]⟩, .slice none 0 0, .string ⟨#[]⟩] 91)) w.heap.size 91 #[.string x0, .slice A1 x1.length c1, .string x2] := (Bk.new _ _ _).alloc _
  have jr0 : Bk ((w.alloc (.cells #[.string x0, .slice A1 x1.length c1, .string x2] 91)).alloc (.cells #[.string ⟨#[]⟩, .slice none 0 0, .string ⟨#[]⟩] 91)) (w.heap.size + 1) 91 #[.string ⟨#[]⟩, .slice none 0 0, .string ⟨#[]⟩] := by simpa using (Bk.new (w.alloc (.cells #[.string x0, .slice A1 x1.length c1, .string x2] 91)) 91 #[.string ⟨#[]⟩, .slice none 0 0, .string ⟨#[]⟩])
  have vv0 : Up w ((w.alloc (.cells #[.string x0, .slice A1 x1.length c1, .string x2] 91)).alloc (.cells #[.string ⟨#[]⟩, .slice none 0 0, .string ⟨#[]⟩] 91)) := ((Up.refl _).alloc _).alloc _
  go_enter Tryz.func116, Tryz.ntmps116
  go_wp2_with fail
  refine (c_CloneStringS x1 A1 c1 _ (b1.up good_S vv0) hl).mono ?_
  rintro e w1 ⟨D1, d1, bl1, rfl, o1, nd1, u1⟩
  have ka := ja0.up u1
  have kr := jr0.up u1
  have g0 : w1.cell? ⟨w.heap.size, 0, none⟩ = some (.string x0) := ka.cell 0
  have g1 : w1.cell? ⟨w.heap.size, 1, none⟩ = some (.slice A1 x1.length c1) := ka.cell 1
  have g2 : w1.cell? ⟨w.heap.size, 2, none⟩ = some (.string x2) := ka.cell 2
  have f1 := ka.frozen 1
  have r0 : w1.cell? ⟨w.heap.size + 1, 0, none⟩ = some (.string ⟨#[]⟩) := kr.cell 0
  have r1 : w1.cell? ⟨w.heap.size + 1, 1, none⟩ = some (.slice none 0 0) := kr.cell 1
  have r2 : w1.cell? ⟨w.heap.size + 1, 2, none⟩ = some (.string ⟨#[]⟩) := kr.cell 2
  have fr0 := kr.frozen 0
  have fr1 := kr.frozen 1
  have fr2 := kr.frozen 2
  have hk := kr.lt
  have uu := vv0.trans u1
  have hsz : w.heap.size + 1 + 1 ≤ ((w.alloc (.cells #[.string x0, .slice A1 x1.length c1, .string x2] 91)).alloc (.cells #[.string ⟨#[]⟩, .slice none 0 0, .string ⟨#[]⟩] 91)).heap.size := by simp
  have p1 := o1.wide good_S (lo' := w.heap.size + 1 + 1) hsz (Nat.le_refl _)
  clear o1
  go_wp2_with fail
  have z1 := p1.set good_S w.heap.size 1 [.slice D1 x1.length d1] (by omega)
  have z2 := z1.set good_S (w.heap.size + 1) 0 [.string x0, .slice D1 x1.length d1, .string x2] (by omega)
  have fu1 := uu.sets (g := w.heap.size) (Nat.le_refl _) 1 [.slice D1 x1.length d1]
  have fu2 := fu1.sets (g := w.heap.size + 1) (by omega) 0 [.string x0, .slice D1 x1.length d1, .string x2]
  refine bodyPost_ret (v := .agg #[.string x0, .slice D1 x1.length d1, .string x2]) (by simp [results, Tryz.results116, go_sem, r0, r1, r2]) rfl ?_
  exact ⟨[.string x0, .slice D1 x1.length d1, .string x2], _, rfl, mkONode (x := (x0, x1, x2)) b0 (z2.wide good_S (lo' := w.heap.size) (by omega) (Nat.le_refl _)) b2, nd1, fu2⟩
set_option maxRecDepth 100000 in
set_option maxHeartbeats 8000000 in
theorem c_copyTree (v : Value) (x : TTree) (w : World) (h : AV shTree w v x) (hx : x.length ≤ 1000000) (hl : ∀ i (h : i < x.length), x[i].2.1.length ≤ 1048576) : Calls Tryz.prog 77 #[v] w (ToV shTree x w) := by
  obtain ⟨i0, hi0, hz0, hz1, hz2⟩ := info_parts cinfo_Node
  obtain ⟨cs, rfl, h⟩ := h
  obtain ⟨A0, c0, rfl, b00⟩ := openTree h
  clear h
  have HL := Lib.hid hl
  clear hl
  have hlen := b00.len_le
  have vv0 : Up w ((((w.alloc (.cells #[.slice A0 x.length c0] 32)).alloc (.cells #[.slice none 0 0] 32))).alloc (.cells #[.slice none 0 0] 32)) := (((Up.refl _).alloc _).alloc _).alloc _
  obtain ⟨W0, hW0⟩ : ∃ W0, W0 = ((((w.alloc (.cells #[.slice A0 x.length c0] 32)).alloc (.cells #[.slice none 0 0] 32))).alloc (.cells #[.slice none 0 0] 32)) := ⟨_, rfl⟩
  have hs0 : W0.heap.size = w.heap.size + 3 := by rw [hW0]; simp
  have jr0 : Bk W0 (w.heap.size + 1) 32 #[.slice none 0 0] := by
    rw [hW0]
    have := (Bk.new (w.alloc (.cells #[.slice A0 x.length c0] 32)) 32 #[.slice none 0 0]).alloc (.cells #[.slice none 0 0] 32)
    simpa using this
  have jo0 : Bk W0 (w.heap.size + 1 + 1) 32 #[.slice none 0 0] := by
    rw [hW0]
    have := Bk.new ((w.alloc (.cells #[.slice A0 x.length c0] 32)).alloc (.cells #[.slice none 0 0] 32)) 32 #[.slice none 0 0]
    simpa using this
  go_enter Tryz.func77, Tryz.ntmps77
  go_wp2_with fail
  rw [← hW0]
  rw [← hW0] at vv0
  clear hW0
  go_loopw [10] (fun i wr => ∃ (k : Nat) (D : Option Addr) (d : Nat) (bl : List Nat), k ≤ x.length ∧ i = .int .i64 k ∧ Bk wr (w.heap.size + 1) 32 #[.slice none 0 0] ∧ Bk wr (w.heap.size + 1 + 1) 32 #[.slice D k d] ∧ SO shNode wr (w.heap.size + 3) wr.heap.size D d (x.take k) bl ∧ bl.Nodup ∧ Up w wr ∧ w.heap.size + 3 ≤ wr.heap.size) (fun i _ => x.length - (intOf i).toNat)
  case atStart => exact ⟨0, none, 0, [], Nat.zero_le _, rfl, jr0, jo0, by simpa using SO.nil _ _ _, by simp, vv0, by omega⟩
  case round =>
    obtain ⟨k, D, d, bl, hk, rfl, kr, ko, so, nd, hu, hsz⟩ := hrel
    by_cases hlt : k < x.length
    · have hl := HL.out k hlt
      obtain ⟨g, off, A2, c2, rfl, _, hgl, hc0, hc1, hc2, b0, b1, b2, _⟩ := atNode (b00.up good_Node hu) hlt
      have HTK : Hid (x.take (k + 1) = x.take k ++ [x[k]]) := List.take_succ_eq_append_getElem hlt
      have htk : (x.take k).length = k := by rw [List.length_take]; omega
      obtain ⟨X, hX⟩ : ∃ X, X = x.take k := ⟨_, rfl⟩
      rw [← hX] at so htk HTK
      clear hX
      obtain ⟨⟨x0, x1, x2⟩, hxk⟩ : ∃ q, q = x[k] := ⟨_, rfl⟩
      rw [← hxk] at hl hc0 hc1 hc2 b0 b1 b2 HTK
      have HXK := Lib.hid hxk
      clear hxk
      dsimp only at hl hc0 hc1 hc2 b0 b1 b2
      have av : ∀ W, Up wr W → AV shNode W (.agg #[.string x0, .slice A2 x1.length c2, .string x2]) (x0, x1, x2) := fun W hW => AV.up good_Node ⟨_, rfl, mkNode (x := (x0, x1, x2)) b0 b1 b2⟩ hW
      have kn0 : Bk (wr.alloc (.cells #[.string x0, .slice A2 x1.length c2, .string x2] 91)) wr.heap.size 91 #[.string x0, .slice A2 x1.length c2, .string x2] := Bk.new _ _ _
      have ko0 := ko.alloc (.cells #[.string x0, .slice A2 x1.length c2, .string x2] 91)
      have kr0 := kr.alloc (.cells #[.string x0, .slice A2 x1.length c2, .string x2] 91)
      have uq : Up wr (wr.alloc (.cells #[.string x0, .slice A2 x1.length c2, .string x2] 91)).drew := ((Up.refl wr).alloc _).drew
      have hx1 : (X.length + 1) * i0.bytes ≤ 140737488355328 := by rw [hz2]; omega
      have hx2 : X.length + 1 ≤ maxLen := by unfold maxLen; omega
      have gN0 := kn0.cell 0
      have gN1 := kn0.cell 1
      have gN2 := kn0.cell 2
      have gO := ko0.cell 0
      have fO := ko0.frozen 0
      have hin := so.in_ good_Node
      have hnd : ∀ be : List Nat, be.Nodup → (∀ y ∈ be, wr.heap.size ≤ y) → (bl ++ [be].flatten).Nodup := fun be h1 h2 => by
        simpa using nodup_two (m := wr.heap.size) nd h1 (fun y hy => (hin y hy).2) h2
      have hgo : w.heap.size + 1 + 1 ∉ bl := fun hm => by have := (hin _ hm).1; omega
      have hgr : w.heap.size + 1 ∉ bl := fun hm => by have := (hin _ hm).1; omega
      have hgn : wr.heap.size ∉ bl := fun hm => by have := (hin _ hm).2; omega
      have SOH := Lib.hid so
      clear so nd
      go_wp2_with fail
      go_region_law
        (first
          | (go_simp
             go_at_call 116
             (with_reducible refine (c_copyNode _ (x0, x1, x2) _ (av _ uq) hl).mono ?_)
             rintro e w1 ⟨csn, bln, rfl, on, ndn, un⟩
             obtain ⟨E1, e1, _, rfl, rfl, o0, o1, o2⟩ := openONode on
             have ko1 := ko0.drew.up un
             have kn1 := kn0.drew.up un
             have kr1 := kr0.drew.up un
             have gO1 := ko1.cell 0
             have gO1b := (ko1.alloc (.cells #[.string x0, .slice E1 x1.length e1, .string x2] 91)).cell 0
             have nb := hnd _ ndn (fun y hy => Nat.le_trans (by simp) (good_Node.own_in on y hy).1)
             have ro : ∀ W, Up w1 W → Rowed shNode W (w.heap.size + 3) W.heap.size [.string x0, .slice E1 x1.length e1, .string x2] [(x0, x1, x2)] [bln] := fun W hW => Rowed.one good_Node (good_Node.own_wide (own_up good_Node on hW) (Nat.le_trans hsz (by simp)) (Nat.le_refl _))
             have s1 : ∀ W, Up w1 W → SO shNode W (w.heap.size + 3) W.heap.size D d X bl := fun W hW => SOH.out.up good_Node ((uq.trans un).trans hW)
             have hs1 : ∀ W, Up w1 W → w.heap.size + 3 ≤ W.heap.size := fun W hW => Nat.le_trans hsz ((uq.trans un).trans hW).size)
          | (refine step_app good_Node rfl _ _ _ _ 91 rfl i0 _ Tryz.underlying30 hi0 hz0 hz1 (by rfl) (lo := w.heap.size + 3) (xs := X) (ys := [(x0, x1, x2)]) (bl := bl) (bs := [bln]) (news := [.string x0, .slice E1 x1.length e1, .string x2]) (by rw [htk]; rfl) rfl (s1 _ ((Up.refl w1).alloc _)) nb (Src.box (t := 91) (cs := [.string x0, .slice E1 x1.length e1, .string x2]) Tryz.underlying30 (Bk.new w1 91 #[.string x0, .slice E1 x1.length e1, .string x2]) (by simp [Value.oneCell']) (by rw [hz1]; rfl)) (ro _ ((Up.refl w1).alloc _)) (hs1 _ ((Up.refl w1).alloc _)) hx1 hx2 ?_
             intro D' d' bl' w2 hap
             obtain ⟨so2, nd2, mem2, on2⟩ := hap
             have ko2 := (ko1.alloc (.cells #[.string x0, .slice E1 x1.length e1, .string x2] 91)).only on2 hgo
             have kr2 := (kr1.alloc (.cells #[.string x0, .slice E1 x1.length e1, .string x2] 91)).only on2 hgr
             have kn2 := (kn1.alloc (.cells #[.string x0, .slice E1 x1.length e1, .string x2] 91)).only on2 hgn
             have gO2 := ko2.cell 0
             have fO2 := ko2.frozen 0))
      all_goals
        go_wp2_with fail
        have hs2 : w.heap.size + 3 ≤ w2.heap.size := Nat.le_trans (hs1 _ ((Up.refl w1).alloc _)) on2.size
        have hu2 : Up w w2 := Up.only (((hu.trans uq).trans un).alloc (.cells #[.string x0, .slice E1 x1.length e1, .string x2] 91)) on2 (fun y hy => by have := (hin y hy).1; omega)
        go_roundw
        case rel =>
          refine ⟨k + 1, D', d', bl', by omega, by go_num, kr2.far (by simp) _, by simpa using ko2.set 0 (.slice D' (k + 1) d'), ?_, nd2, hu2.setCell (by simp; omega) _, by simpa [World.setCell] using hs2⟩
          rw [HTK.out]
          exact so2.set good_Node (w.heap.size + 1 + 1) 0 [.slice D' (k + 1) d'] (by omega)
        case measure => simp [intOf]; omega
    · obtain rfl : k = x.length := by omega
      rw [List.take_length] at so
      have gO := ko.cell 0
      have gR := kr.cell 0
      have fR := kr.frozen 0
      go_wp2_with fail
      have hz := (so.set good_Node (w.heap.size + 1) 0 [.slice D x.length d] (by omega)).wide good_Node (lo' := w.heap.size) (by omega) (Nat.le_refl _)
      refine bodyPost_ret (v := .agg #[.slice D x.length d]) (by simp [results, Tryz.results77, go_sem, gR]) rfl ?_
      exact ⟨[.slice D x.length d], bl, rfl, mkOTree hz, nd, hu.setCell (by simp) _⟩
end Go.Proofs.YtanjmolgpkffoaaGreatDoor

namespace Go.Proofs.YtanjmolgpkffoaaGreatDoor
open Go.RowKit
set_option linter.unusedVariables false
set_option linter.unusedSimpArgs false

theorem up3 {w w' : World} (u : Up w w') {a b c : Addr} {x y z : Value} (h : w.cell? a = some x ∧ w.cell? b = some y ∧ w.cell? c = some z) : w'.cell? a = some x ∧ w'.cell? b = some y ∧ w'.cell? c = some z :=
  ⟨(u.cell (cell_lt h.1)).trans h.1, (u.cell (cell_lt h.2.1)).trans h.2.1, (u.cell (cell_lt h.2.2)).trans h.2.2⟩
set_option maxRecDepth 100000 in
set_option maxHeartbeats 1000000 in
theorem c_l03Subs (xs : List ByteArray) (A : Option Addr) (c : Nat) (w : World) (h : SRW shS w A c xs) (hn : xs.length ≤ 1048576) :
    Calls Tryz.prog 74 #[.slice A xs.length c] w (ToL shS xs w) := by
  obtain ⟨i0, hi0, hz0, hz1, hz2⟩ := info_parts cinfo_StringS
  go_enter Tryz.func74, Tryz.ntmps74
  go_wp2_with (first
    | (at_builtin
       refine wpList_app_new good_S flat_S rfl _ _ _ 9 rfl i0 _ Tryz.underlying25 hi0 hz0 hz1 (by rfl) rfl rfl (h.up good_S ((Up.refl w).alloc _)) (by rw [hz2]; omega) ?_
       intro D d bl w1 hso hnd hu))
  go_ret
  exact ⟨D, d, bl, rfl, hso.wide good_S (by simp) (Nat.le_refl _), hnd, ((Up.refl w).alloc _).trans hu⟩
set_option maxRecDepth 100000 in
set_option maxHeartbeats 8000000 in
theorem c_l03Own (x : List TNode) (A : Option Addr) (c : Nat) (w : World) (h : SRW shNode w A c x) (hx : x.length ≤ 1000000) (hl : ∀ i (h : i < x.length), x[i].2.1.length ≤ 1048576) : Calls Tryz.prog 72 #[.slice A x.length c] w (ToL shNode x w) := by
  obtain ⟨i0, hi0, hz0, hz1, hz2⟩ := info_parts cinfo_Node
  have HL := Lib.hid hl
  clear hl
  have hlen := h.len_le
  have uA : Up w (w.alloc (.cells #[] 91)) := (Up.refl w).alloc _
  go_enter Tryz.func72, Tryz.ntmps72
  go_wp2_with fail
  go_loopw [3, 4] (fun o i wr => ∃ (k : Nat) (D : Option Addr) (d : Nat) (bl : List Nat), k ≤ x.length ∧ i = .int .i64 k ∧ o = .slice D k d ∧ SO shNode wr w.heap.size wr.heap.size D d (x.take k) bl ∧ bl.Nodup ∧ Up w wr) (fun _ i _ => x.length - (intOf i).toNat)
  case atStart => exact ⟨0, _, 0, [], Nat.zero_le _, rfl, rfl, ⟨Nat.le_refl _, Nat.zero_le _, .inl ⟨rfl, rfl, rfl⟩⟩, by simp, uA⟩
  case round =>
    obtain ⟨k, D, d, bl, hk, rfl, rfl, so, nd, hu⟩ := hrel
    by_cases hlt : k < x.length
    · have hl := HL.out k hlt
      obtain ⟨g, off, A2, c2, rfl, _, hgl, hc0, hc1, hc2, b0, b1, b2, _⟩ := atNode h hlt
      have HTK : Hid (x.take (k + 1) = x.take k ++ [x[k]]) := List.take_succ_eq_append_getElem hlt
      have htk : (x.take k).length = k := by rw [List.length_take]; omega
      obtain ⟨X, hX⟩ : ∃ X, X = x.take k := ⟨_, rfl⟩
      rw [← hX] at so htk HTK
      clear hX
      obtain ⟨⟨x0, x1, x2⟩, hxk⟩ : ∃ q, q = x[k] := ⟨_, rfl⟩
      rw [← hxk] at hl hc0 hc1 hc2 b0 b1 b2 HTK
      have HXK := Lib.hid hxk
      clear hxk
      dsimp only at hl hc0 hc1 hc2 b0 b1 b2
      have hc3 := Lib.hid (⟨hc0, hc1, hc2⟩ : w.cell? ⟨g, off + k * 3, none⟩ = some (.string x0) ∧ w.cell? ⟨g, off + k * 3 + 1, none⟩ = some (.slice A2 x1.length c2) ∧ w.cell? ⟨g, off + k * 3 + 2, none⟩ = some (.string x2))
      clear hc0 hc1 hc2
      have hx1 : (X.length + 1) * i0.bytes ≤ 140737488355328 := by rw [hz2]; omega
      have hx2 : X.length + 1 ≤ maxLen := by unfold maxLen; omega
      have hin := so.in_ good_Node
      have hlo := hu.size
      have hnd : ∀ be : List Nat, be.Nodup → (∀ y ∈ be, wr.heap.size ≤ y) → (bl ++ [be].flatten).Nodup := fun be h1 h2 => by
        simpa using nodup_two (m := wr.heap.size) nd h1 (fun y hy => (hin y hy).2) h2
      have SOH := Lib.hid so
      clear so nd
      go_wp2_with fail
      go_region_held3 (fun W => W.cell? ⟨g, off + k * 3, none⟩ = some (.string x0) ∧ W.cell? ⟨g, off + k * 3 + 1, none⟩ = some (.slice A2 x1.length c2) ∧ W.cell? ⟨g, off + k * 3 + 2, none⟩ = some (.string x2))
        (first | exact up3 hu.drew hc3.out | exact up3 uu1 hc3.out | exact up3 (uu1.alloc _) hc3.out | exact up3 uu2 hc3.out)
        (first
          | (go_at_call 74
             (with_reducible refine (c_l03Subs x1 A2 c2 _ (SR.up good_S b1 hu.drew) hl).mono ?_)
             rintro e w1 ⟨E1, e1, bln, rfl, on, ndn, un⟩
             have uu1 : Up w w1 := hu.drew.trans un
             have nb := hnd _ ndn (fun y hy => Nat.le_trans (by simp) (on.in_ good_S y hy).1)
             have ro : ∀ W, Up w1 W → Rowed shNode W w.heap.size W.heap.size [.string x0, .slice E1 x1.length e1, .string x2] [(x0, x1, x2)] [bln] := fun W hW => Rowed.one good_Node (mkONode (x := (x0, x1, x2)) b0 ((on.up good_S hW).wide good_S (Nat.le_trans hlo (by simp)) (Nat.le_refl _)) b2)
             have s1 : ∀ W, Up w1 W → SO shNode W w.heap.size W.heap.size D d X bl := fun W hW => SOH.out.up good_Node (((Up.refl wr).drew.trans un).trans hW)
             have hs1 : ∀ W, Up w1 W → w.heap.size ≤ W.heap.size := fun W hW => (uu1.trans hW).size)
          | (refine step_app good_Node rfl _ _ _ _ 91 rfl i0 _ Tryz.underlying30 hi0 hz0 hz1 (by rfl) (lo := w.heap.size) (xs := X) (ys := [(x0, x1, x2)]) (bl := bl) (bs := [bln]) (news := [.string x0, .slice E1 x1.length e1, .string x2]) (by rw [htk]; rfl) rfl (s1 _ ((Up.refl w1).alloc _)) nb (Src.box (t := 91) (cs := [.string x0, .slice E1 x1.length e1, .string x2]) Tryz.underlying30 (Bk.new w1 91 #[.string x0, .slice E1 x1.length e1, .string x2]) (by simp [Value.oneCell']) (by rw [hz1]; rfl)) (ro _ ((Up.refl w1).alloc _)) (hs1 _ ((Up.refl w1).alloc _)) hx1 hx2 ?_
             intro D' d' bl' w2 hap
             obtain ⟨so2, nd2, mem2, on2⟩ := hap
             have uu2 : Up w w2 := Up.only (uu1.alloc (.cells #[.string x0, .slice E1 x1.length e1, .string x2] 91)) on2 (fun y hy => (hin y hy).1)))
      all_goals
        go_wp2_with fail
        go_roundw
        case rel =>
          refine ⟨k + 1, D', d', bl', by omega, by go_num, rfl, ?_, nd2, uu2⟩
          rw [HTK.out]
          exact so2
        case measure => simp [intOf]; omega
    · obtain rfl : k = x.length := by omega
      rw [List.take_length] at so
      go_wp2_with fail
      go_ret
      exact ⟨D, d, bl, rfl, so, nd, hu⟩
end Go.Proofs.YtanjmolgpkffoaaGreatDoor

namespace Go.Proofs.YtanjmolgpkffoaaGreatDoor
open Go.RowKit
set_option linter.unusedVariables false
set_option linter.unusedSimpArgs false

end Go.Proofs.YtanjmolgpkffoaaGreatDoor

namespace Go.Proofs.YtanjmolgpkffoaaGreatDoor
open Go.RowKit
set_option linter.unusedVariables false
set_option linter.unusedSimpArgs false

def KeysP (l : List ByteArray) : Prop := ∀ i (h : i < l.length), keyB l[i] = true ∧ (0 < i → bytesLt (l[i - 1]'(by omega)) l[i] = true)
instance (l : List ByteArray) : Decidable (KeysP l) := by unfold KeysP; infer_instance
--@begin f{impl.keysOk}
--@begin f{spec.l15Keys}
end Go.Proofs.YtanjmolgpkffoaaGreatDoor

namespace Go.Proofs.YtanjmolgpkffoaaGreatDoor
open Go.RowKit
set_option linter.unusedVariables false
set_option linter.unusedSimpArgs false

def imgB (x : TImage) : Bool := placeB x.1 x.2.1 && !(decide (64 < x.2.2.2.1.size) || decide (64 < x.2.2.2.2.2.size)) && (x.2.2.1 || x.2.2.2.1.toList.isEmpty) && (x.2.2.2.2.1 || x.2.2.2.2.2.toList.isEmpty) && !(x.2.2.1 == x.2.2.2.2.1 && x.2.2.2.1.toList == x.2.2.2.2.2.toList)
def ImagesP (l : List TImage) : Prop := l.length ≤ 240 ∧ ∀ i (h : i < l.length), imgB l[i] = true ∧ (0 < i → locLt (l[i - 1].1, l[i - 1].2.1) (l[i].1, l[i].2.1) = true)
instance (l : List TImage) : Decidable (ImagesP l) := by unfold ImagesP; infer_instance
def imagesB (l : List TImage) : Bool := decide (ImagesP l)
theorem imagesB_t {l : List TImage} (h : ImagesP l) : imagesB l = true := decide_eq_true h
theorem imagesB_f {l : List TImage} (h : ¬ ImagesP l) : imagesB l = false := decide_eq_false h
theorem SR_two {w : World} {g : Nat} {t : TypeId} {a b : ByteArray} (hb : Bk w g t #[.string a, .string b]) (ha : a.size ≤ maxLen) (hb' : b.size ≤ maxLen) : SRW shS w (some ⟨g, 0, none⟩) 2 [a, b] := by
  refine ⟨by simp, by unfold maxLen; decide, fun _ => ⟨g, 0, rfl, Nat.zero_le _, hb.lt, fun i hi => ?_⟩⟩
  have hi2 : i = 0 ∨ i = 1 := by simp at hi; omega
  rcases hi2 with rfl | rfl
  · refine ⟨[.string a], ⟨rfl, fun j hj => ?_⟩, rfl, ha⟩
    obtain rfl : j = 0 := by have : j < 1 := hj; omega
    exact hb.cell 0
  · refine ⟨[.string b], ⟨rfl, fun j hj => ?_⟩, rfl, hb'⟩
    obtain rfl : j = 0 := by have : j < 1 := hj; omega
    exact hb.cell 1
theorem c_long1 (s : ByteArray) (w : World) : Calls Tryz.prog 160 #[.string s] w (BoolP (decide (64 < s.size)) w) := by
  go_enter Tryz.func160, Tryz.ntmps160
  go_wp2_with fail
  go_ret
  exact ⟨by first | rfl | (simp; omega), Up.refl _⟩
set_option maxHeartbeats 4000000 in
theorem c_long (xs : List ByteArray) (n : Int) (hn : n = xs.length) (A : Option Addr) (c : Nat) (w : World) (h : SRW shS w A c xs) :
    Calls Tryz.prog 111 #[.slice A xs.length c] w (RetV (.bool (xs.any fun s => decide (64 < s.size))) w) := by
  have eg : ∀ args w, (callFunc 160 args).run Tryz.prog w = .ok (.enter 160 args) w := enters_of Tryz.func160 (by kernel_rfl) rfl
  have EG := Lib.hid eg
  clear eg
  go_enter Tryz.func111, Tryz.ntmps111
  go_wp2_with fail
  refine (c_ContainsFuncString 160 #[] EG.out (fun s => decide (64 < s.size)) A c xs _ h (fun W x _ _ => c_long1 x W)).mono ?_
  rintro e w1 ⟨rfl, u1⟩
  obtain ⟨b, hb⟩ : ∃ b, b = (xs.any fun s => decide (64 < s.size)) := ⟨_, rfl⟩
  rw [← hb]
  have HB := Lib.hid hb
  clear hb
  go_wp2_with fail
  go_ret
  exact ⟨by rw [← HB.out]; first | done | rfl, u1⟩
theorem c_long2 (a b : ByteArray) (g : Nat) (w : World) (hb : Bk w g 9 #[.string a, .string b]) (ha : a.size ≤ maxLen) (hb' : b.size ≤ maxLen) :
    Calls Tryz.prog 111 #[.slice (some ⟨g, 0, none⟩) 2 2] w (RetV (.bool (decide (64 < a.size) || decide (64 < b.size))) w) := by
  have := c_long [a, b] 2 rfl _ 2 w (SR_two hb ha hb')
  simpa using this
set_option maxRecDepth 100000 in
set_option maxHeartbeats 8000000 in
theorem c_imageOk (x : TImage) (v : Value) (w : World) (h : AV shImage w v x) : Calls Tryz.prog 63 #[v] w (RetV (.bool (imgB x)) w) := by
  obtain ⟨cs, rfl, h⟩ := h
  obtain ⟨A1, c1, rfl, b0, b1, b3, b5⟩ := openImage h
  obtain ⟨x0, x1, x2, x3, x4, x5⟩ := x
  simp only at b0 b1 b3 b5
  clear h
  have hv : imgB (x0, x1, x2, x3, x4, x5) = (placeB x0 x1 && !(decide (64 < x3.size) || decide (64 < x5.size)) && (x2 || x3.toList.isEmpty) && (x4 || x5.toList.isEmpty) && !(x2 == x4 && x3.toList == x5.toList)) := rfl
  have k0 := Bk.new w 98 #[.string x0, .slice A1 x1.length c1, .bool x2, .string x3, .bool x4, .string x5]
  have u0 : Up w (w.alloc (.cells #[.string x0, .slice A1 x1.length c1, .bool x2, .string x3, .bool x4, .string x5] 98)) := (Up.refl w).alloc _
  cases hp : placeB x0 x1
  · have H := Lib.hid (show imgB (x0, x1, x2, x3, x4, x5) = false by rw [hv, hp]; rfl)
    clear hv
    go_enter Tryz.func63, Tryz.ntmps63
    go_wp2_with fail
    refine (c_locationOk x0 x1 A1 c1 _ b0 (b1.up good_S u0)).mono ?_
    rintro e w1 ⟨rfl, u1⟩
    rw [hp]
    go_wp2_with fail
    go_ret
    exact ⟨by rw [H.out]; first | done | rfl, u0.trans u1⟩
  · cases hl : (decide (64 < x3.size) || decide (64 < x5.size))
    · cases x2 <;> cases x4 <;> cases hw : x3.toList.isEmpty <;> cases hi : x5.toList.isEmpty <;> cases he : (x3.toList == x5.toList)
      all_goals
        have H := Lib.hid (hv.trans (by rw [hp, hl, hw, hi, he]))
        clear hv
        have cL := fun (g : Nat) (W : World) (hb : Bk W g 9 #[.string x3, .string x5]) => c_long2 x3 x5 g W hb b3 b5
        rw [hl] at cL
        have CL := Lib.hid cL
        clear cL hl
        go_enter Tryz.func63, Tryz.ntmps63
        go_wp2_with fail
        refine (c_locationOk x0 x1 A1 c1 _ b0 (b1.up good_S u0)).mono ?_
        rintro e w1 ⟨rfl, u1⟩
        rw [hp]
        have k1 := k0.up u1
        have uu := u0.trans u1
        have g2 : w1.cell? ⟨w.heap.size, 2, none⟩ = some (.bool _) := k1.cell 2
        have g3 : w1.cell? ⟨w.heap.size, 3, none⟩ = some (.string x3) := k1.cell 3
        have g4 : w1.cell? ⟨w.heap.size, 4, none⟩ = some (.bool _) := k1.cell 4
        have g5 : w1.cell? ⟨w.heap.size, 5, none⟩ = some (.string x5) := k1.cell 5
        have z1 := k1.lt
        go_wp2_with fail
        refine (CL.out w1.heap.size _ (Bk.new _ _ _)).mono ?_
        rintro e w2 ⟨rfl, u2⟩
        have k2 := (k1.alloc (.cells #[.string x3, .string x5] 9)).up u2
        have uu2 := (uu.alloc _).trans u2
        have g2 : w2.cell? ⟨w.heap.size, 2, none⟩ = some (.bool _) := k2.cell 2
        have g3 : w2.cell? ⟨w.heap.size, 3, none⟩ = some (.string x3) := k2.cell 3
        have g4 : w2.cell? ⟨w.heap.size, 4, none⟩ = some (.bool _) := k2.cell 4
        have g5 : w2.cell? ⟨w.heap.size, 5, none⟩ = some (.string x5) := k2.cell 5
        go_wp2_with fail
        go_ret
        exact ⟨by rw [H.out]; first | done | rfl, uu2⟩
    · have H := Lib.hid (show imgB (x0, x1, x2, x3, x4, x5) = false by rw [hv, hp, hl]; rfl)
      clear hv
      have cL := fun (g : Nat) (W : World) (hb : Bk W g 9 #[.string x3, .string x5]) => c_long2 x3 x5 g W hb b3 b5
      rw [hl] at cL
      have CL := Lib.hid cL
      clear cL hl
      go_enter Tryz.func63, Tryz.ntmps63
      go_wp2_with fail
      refine (c_locationOk x0 x1 A1 c1 _ b0 (b1.up good_S u0)).mono ?_
      rintro e w1 ⟨rfl, u1⟩
      rw [hp]
      have k1 := k0.up u1
      have uu := u0.trans u1
      have g3 : w1.cell? ⟨w.heap.size, 3, none⟩ = some (.string x3) := k1.cell 3
      have g5 : w1.cell? ⟨w.heap.size, 5, none⟩ = some (.string x5) := k1.cell 5
      have z1 := k1.lt
      go_wp2_with fail
      refine (CL.out w1.heap.size _ (Bk.new _ _ _)).mono ?_
      rintro e w2 ⟨rfl, u2⟩
      go_wp2_with fail
      go_ret
      exact ⟨by rw [H.out]; first | done | rfl, (uu.alloc _).trans u2⟩
end Go.Proofs.YtanjmolgpkffoaaGreatDoor
