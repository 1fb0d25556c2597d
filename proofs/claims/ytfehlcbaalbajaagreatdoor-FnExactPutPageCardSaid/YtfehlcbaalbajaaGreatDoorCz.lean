/-
  The reference's copies: l03Subs, l03Own.
-/
import Derived.Test.YtfehlcbaalbajaaGreatDoorCy
namespace Go.Proofs.YtfehlcbaalbajaaGreatDoor
open Go.RowKit
set_option linter.unusedVariables false
set_option linter.unusedSimpArgs false

theorem up3 {w w' : World} (u : Up w w') {a b c : Addr} {x y z : Value} (h : w.cell? a = some x ∧ w.cell? b = some y ∧ w.cell? c = some z) : w'.cell? a = some x ∧ w'.cell? b = some y ∧ w'.cell? c = some z :=
  ⟨(u.cell (cell_lt h.1)).trans h.1, (u.cell (cell_lt h.2.1)).trans h.2.1, (u.cell (cell_lt h.2.2)).trans h.2.2⟩
set_option maxRecDepth 100000 in
set_option maxHeartbeats 1000000 in
theorem c_l03Subs (xs : List ByteArray) (A : Option Addr) (c : Nat) (w : World) (h : SRW shS w A c xs) (hn : xs.length ≤ 1048576) :
    Calls Tryz.prog 108 #[.slice A xs.length c] w (ToL shS xs w) := by
  obtain ⟨i0, hi0, hz0, hz1, hz2⟩ := info_parts cinfo_StringS
  go_enter Tryz.func108, Tryz.ntmps108
  go_wp2_with (first
    | (at_builtin
       refine wpList_app_new good_S flat_S rfl _ _ _ 9 rfl i0 _ Tryz.underlying44 hi0 hz0 hz1 (by rfl) rfl rfl (h.up good_S ((Up.refl w).alloc _)) (by rw [hz2]; omega) ?_
       intro D d bl w1 hso hnd hu))
  go_ret
  exact ⟨D, d, bl, rfl, hso.wide good_S (by simp) (Nat.le_refl _), hnd, ((Up.refl w).alloc _).trans hu⟩
set_option maxRecDepth 100000 in
set_option maxHeartbeats 8000000 in
theorem c_l03Own (x : List TNode) (A : Option Addr) (c : Nat) (w : World) (h : SRW shNode w A c x) (hx : x.length ≤ 1000000) (hl : ∀ i (h : i < x.length), x[i].2.1.length ≤ 1048576) : Calls Tryz.prog 105 #[.slice A x.length c] w (ToL shNode x w) := by
  obtain ⟨i0, hi0, hz0, hz1, hz2⟩ := info_parts cinfo_Node
  have HL := Lib.hid hl
  clear hl
  have hlen := h.len_le
  have uA : Up w (w.alloc (.cells #[] 155)) := (Up.refl w).alloc _
  go_enter Tryz.func105, Tryz.ntmps105
  go_wp2_with fail
  go_loopw [3, 4] (fun o i wr => ∃ (k : Nat) (D : Option Addr) (d : Nat) (bl : List Nat), k ≤ x.length ∧ i = .int .i64 k ∧ o = .slice D k d ∧ SO shNode wr w.heap.size wr.heap.size D d (x.take k) bl ∧ bl.Nodup ∧ Up w wr) (fun _ i _ => x.length - (intOf i).toNat)
  case atStart => exact ⟨0, _, 0, [], Nat.zero_le _, rfl, rfl, ⟨Nat.le_refl _, Nat.zero_le _, .inl ⟨rfl, rfl, rfl⟩⟩, by simp, uA⟩
  case round =>
    obtain ⟨k, D, d, bl, hk, rfl, rfl, so, nd, hu⟩ := hrel
    by_cases hlt : k < x.length
    · have hl := HL.out k hlt
      obtain ⟨g, off, A2, c2, rfl, _, hgl, hc0, hc1, hc2, b0, b1, b2, _⟩ := atNode h hlt
      have HTK : Hid (x.take (k + 1) = x.take k ++ [x[k]]) := List.take_succ_eq_append_getElem hlt
      have htk : (x.take k).length = k := by rw [List.length_take]; omega
      obtain ⟨X, hX⟩ : ∃ X, X = x.take k := ⟨_, rfl⟩
      rw [← hX] at so htk HTK
      clear hX
      obtain ⟨⟨x0, x1, x2⟩, hxk⟩ : ∃ q, q = x[k] := ⟨_, rfl⟩
      rw [← hxk] at hl hc0 hc1 hc2 b0 b1 b2 HTK
      have HXK := Lib.hid hxk
      clear hxk
      dsimp only at hl hc0 hc1 hc2 b0 b1 b2
      have hc3 := Lib.hid (⟨hc0, hc1, hc2⟩ : w.cell? ⟨g, off + k * 3, none⟩ = some (.string x0) ∧ w.cell? ⟨g, off + k * 3 + 1, none⟩ = some (.slice A2 x1.length c2) ∧ w.cell? ⟨g, off + k * 3 + 2, none⟩ = some (.string x2))
      clear hc0 hc1 hc2
      have hx1 : (X.length + 1) * i0.bytes ≤ 140737488355328 := by rw [hz2]; omega
      have hx2 : X.length + 1 ≤ maxLen := by unfold maxLen; omega
      have hin := so.in_ good_Node
      have hlo := hu.size
      have hnd : ∀ be : List Nat, be.Nodup → (∀ y ∈ be, wr.heap.size ≤ y) → (bl ++ [be].flatten).Nodup := fun be h1 h2 => by
        simpa using nodup_two (m := wr.heap.size) nd h1 (fun y hy => (hin y hy).2) h2
      have SOH := Lib.hid so
      clear so nd
      go_wp2_with fail
      go_region_held3 (fun W => W.cell? ⟨g, off + k * 3, none⟩ = some (.string x0) ∧ W.cell? ⟨g, off + k * 3 + 1, none⟩ = some (.slice A2 x1.length c2) ∧ W.cell? ⟨g, off + k * 3 + 2, none⟩ = some (.string x2))
        (first | exact up3 hu.drew hc3.out | exact up3 uu1 hc3.out | exact up3 (uu1.alloc _) hc3.out | exact up3 uu2 hc3.out)
        (first
          | (go_at_call 108
             (with_reducible refine (c_l03Subs x1 A2 c2 _ (SR.up good_S b1 hu.drew) hl).mono ?_)
             rintro e w1 ⟨E1, e1, bln, rfl, on, ndn, un⟩
             have uu1 : Up w w1 := hu.drew.trans un
             have nb := hnd _ ndn (fun y hy => Nat.le_trans (by simp) (on.in_ good_S y hy).1)
             have ro : ∀ W, Up w1 W → Rowed shNode W w.heap.size W.heap.size [.string x0, .slice E1 x1.length e1, .string x2] [(x0, x1, x2)] [bln] := fun W hW => Rowed.one good_Node (mkONode (x := (x0, x1, x2)) b0 ((on.up good_S hW).wide good_S (Nat.le_trans hlo (by simp)) (Nat.le_refl _)) b2)
             have s1 : ∀ W, Up w1 W → SO shNode W w.heap.size W.heap.size D d X bl := fun W hW => SOH.out.up good_Node (((Up.refl wr).drew.trans un).trans hW)
             have hs1 : ∀ W, Up w1 W → w.heap.size ≤ W.heap.size := fun W hW => (uu1.trans hW).size)
          | (refine step_app good_Node rfl _ _ _ _ 155 rfl i0 _ Tryz.underlying31 hi0 hz0 hz1 (by rfl) (lo := w.heap.size) (xs := X) (ys := [(x0, x1, x2)]) (bl := bl) (bs := [bln]) (news := [.string x0, .slice E1 x1.length e1, .string x2]) (by rw [htk]; rfl) rfl (s1 _ ((Up.refl w1).alloc _)) nb (Src.box (t := 155) (cs := [.string x0, .slice E1 x1.length e1, .string x2]) Tryz.underlying31 (Bk.new w1 155 #[.string x0, .slice E1 x1.length e1, .string x2]) (by simp [Value.oneCell']) (by rw [hz1]; rfl)) (ro _ ((Up.refl w1).alloc _)) (hs1 _ ((Up.refl w1).alloc _)) hx1 hx2 ?_
             intro D' d' bl' w2 hap
             obtain ⟨so2, nd2, mem2, on2⟩ := hap
             have uu2 : Up w w2 := Up.only (uu1.alloc (.cells #[.string x0, .slice E1 x1.length e1, .string x2] 155)) on2 (fun y hy => (hin y hy).1)))
      all_goals
        go_wp2_with fail
        go_roundw
        case rel =>
          refine ⟨k + 1, D', d', bl', by omega, by go_num, rfl, ?_, nd2, uu2⟩
          rw [HTK.out]
          exact so2
        case measure => simp [intOf]; omega
    · obtain rfl : k = x.length := by omega
      rw [List.take_length] at so
      go_wp2_with fail
      go_ret
      exact ⟨D, d, bl, rfl, so, nd, hu⟩
end Go.Proofs.YtfehlcbaalbajaaGreatDoor
