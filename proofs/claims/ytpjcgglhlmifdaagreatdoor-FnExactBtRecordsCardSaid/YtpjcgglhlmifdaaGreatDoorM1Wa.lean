/-
  The way down to a key: the reference's.
-/
import Derived.Test.YtpjcgglhlmifdaaGreatDoorM1Bx
import Derived.Test.YtpjcgglhlmifdaaGreatDoorM1Bw
import Derived.Test.YtpjcgglhlmifdaaGreatDoorM1K
import Derived.Deep.RegionHeld3
namespace Go.Proofs.YtpjcgglhlmifdaaGreatDoor
open Go.RowKit
set_option linter.unusedVariables false
set_option linter.unusedSimpArgs false

theorem slots_inj {l : List TSlot} (h : SlotsP l) {i k : Nat} (hi : i < l.length) (hk : k < l.length) (e : l[i].1 = l[k].1) : i = k := by
  rcases Nat.lt_trichotomy i k with q | q | q
  · have := slots_lt h i k hk q; omega
  · exact q
  · have := slots_lt h k i hi q; omega
theorem far4 {w : World} {a : Addr} {g : Nat} (h : g ≠ a.block) (v0 v1 v2 v3 : Value) : ((((w.setCell ⟨g, 0, none⟩ v0).setCell ⟨g, 1, none⟩ v1).setCell ⟨g, 2, none⟩ v2).setCell ⟨g, 3, none⟩ v3).cell? a = w.cell? a := by
  rw [World.cell?_setCell_far _ _ _ _ h, World.cell?_setCell_far _ _ _ _ h, World.cell?_setCell_far _ _ _ _ h, World.cell?_setCell_far _ _ _ _ h]
set_option maxRecDepth 100000 in
set_option maxHeartbeats 4000000 in
theorem c_l16Page (cs : List Value) (y : TBtree) (id : Int) (p : TPage) (w : World) (H : Nat) (hH : H ≤ w.heap.size) (h : shBtree.rep w 0 H cs y) (hs : SlotsP y.2) (hp : pgAt y id = some p) : Calls Tryz.prog 92 #[.agg cs.toArray, .int .i64 id] w (fun e w' => ∃ cs, e = .returned (.agg cs.toArray) ∧ shPage.rep w' 0 H cs p ∧ Up w w') := by
  obtain ⟨r, x⟩ := y
  have ho := openBtree h
  dsimp only at ho hs
  obtain ⟨A0, c0, rfl, br, b00⟩ := ho
  clear h
  have hl64 := slots_len hs
  have kb := (Bk.new w 30 #[.int .i64 r, .slice A0 x.length c0]).alloc (.cells #[.bool false, .slice none 0 0, .slice none 0 0, .slice none 0 0] 88)
  have kr : Bk ((w.alloc (.cells #[.int .i64 r, .slice A0 x.length c0] 30)).alloc (.cells #[.bool false, .slice none 0 0, .slice none 0 0, .slice none 0 0] 88)) (w.heap.size + 1) 88 #[.bool false, .slice none 0 0, .slice none 0 0, .slice none 0 0] := by
    simpa using Bk.new (w.alloc (.cells #[.int .i64 r, .slice A0 x.length c0] 30)) 88 #[.bool false, .slice none 0 0, .slice none 0 0, .slice none 0 0]
  have uu : Up w ((w.alloc (.cells #[.int .i64 r, .slice A0 x.length c0] 30)).alloc (.cells #[.bool false, .slice none 0 0, .slice none 0 0, .slice none 0 0] 88)) := ((Up.refl _).alloc _).alloc _
  have zz : ((w.alloc (.cells #[.int .i64 r, .slice A0 x.length c0] 30)).alloc (.cells #[.bool false, .slice none 0 0, .slice none 0 0, .slice none 0 0] 88)).heap.size = w.heap.size + 2 := by simp
  go_enter Tryz.func92, Tryz.ntmps92
  go_wp2_with fail
  generalize ((w.alloc (.cells #[.int .i64 r, .slice A0 x.length c0] 30)).alloc (.cells #[.bool false, .slice none 0 0, .slice none 0 0, .slice none 0 0] 88)) = W0 at kb kr uu zz ⊢
  have hb0 := (SR.wide good_Slot b00 (Nat.le_refl _) hH : SRW shSlot w A0 c0 x).up good_Slot uu
  have b00' := SR.keep good_Slot b00 (uu.keeps hH)
  replace kb := kb.drew
  replace kr := kr.drew
  have CA := Lib.hid (fun W (u : Up W0 W) => c_l16At (.agg #[.int .i64 r, .slice A0 x.length c0]) (r, x) id W ⟨_, rfl, mkBtree (x := (r, x)) br (hb0.up good_Slot u)⟩)
  obtain ⟨i, hi, hie⟩ := pgAt_some hp
  dsimp only at hi hie
  have hid1 : x[i].1 = id := by rw [hie]
  have hpe : p = x[i].2 := by rw [hie]
  obtain ⟨g, off, A2, c2, A3, c3, A4, c4, hA, _, hgl, _, hc1, hc2, hc3, hc4, _, b2, b3, b4, _⟩ := atSlot b00' hi
  rw [← hpe] at hc1 hc2 hc3 hc4 b2 b3 b4
  subst hA
  have HI := Lib.hid (fun k (hk : k < x.length) (e : x[k].1 = id) => slots_inj hs hk hi (e.trans hid1.symm))
  have HN := Lib.hid (fun (h : ∀ k (hk : k < x.length), x[k].1 ≠ id) => h i hi hid1)
  clear hp hs hie hid1 hpe
  have hgw : w.heap.size + 1 ≠ g := by omega
  replace hc1 : W0.drew.cell? _ = _ := hc1
  replace hc2 : W0.drew.cell? _ = _ := hc2
  replace hc3 : W0.drew.cell? _ = _ := hc3
  replace hc4 : W0.drew.cell? _ = _ := hc4
  go_region_held3 (fun W => W.cell? ⟨w.heap.size, 0, none⟩ = some (.int .i64 r) ∧ W.cell? ⟨w.heap.size, 1, none⟩ = some (.slice (some ⟨g, off, none⟩) x.length c0) ∧ W.cell? ⟨g, off + i * 5 + 1, none⟩ = some (.bool p.1) ∧ W.cell? ⟨g, off + i * 5 + 2, none⟩ = some (.slice A2 p.2.1.length c2) ∧ W.cell? ⟨g, off + i * 5 + 3, none⟩ = some (.slice A3 p.2.2.1.length c3) ∧ W.cell? ⟨g, off + i * 5 + 4, none⟩ = some (.slice A4 p.2.2.2.length c4))
    (first | (have q0 : World.cell? _ ⟨w.heap.size, 0, none⟩ = some (.int .i64 r) := kb.cell 0; have q1 : World.cell? _ ⟨w.heap.size, 1, none⟩ = some (.slice (some ⟨g, off, none⟩) x.length c0) := kb.cell 1; have q2 : World.cell? _ ⟨g, off + i * 5 + 1, none⟩ = some (.bool p.1) := hc1; have q3 : World.cell? _ ⟨g, off + i * 5 + 2, none⟩ = some (.slice A2 p.2.1.length c2) := hc2; have q4 : World.cell? _ ⟨g, off + i * 5 + 3, none⟩ = some (.slice A3 p.2.2.1.length c3) := hc3; have q5 : World.cell? _ ⟨g, off + i * 5 + 4, none⟩ = some (.slice A4 p.2.2.2.length c4) := hc4; with_reducible exact ⟨q0, q1, q2, q3, q4, q5⟩) | (have q0 : World.cell? _ ⟨w.heap.size, 0, none⟩ = some (.int .i64 r) := kb.cell 0; have q1 : World.cell? _ ⟨w.heap.size, 1, none⟩ = some (.slice (some ⟨g, off, none⟩) x.length c0) := kb.cell 1; have q2 : World.cell? _ ⟨g, off + i * 5 + 1, none⟩ = some (.bool p.1) := hd1; have q3 : World.cell? _ ⟨g, off + i * 5 + 2, none⟩ = some (.slice A2 p.2.1.length c2) := hd2; have q4 : World.cell? _ ⟨g, off + i * 5 + 3, none⟩ = some (.slice A3 p.2.2.1.length c3) := hd3; have q5 : World.cell? _ ⟨g, off + i * 5 + 4, none⟩ = some (.slice A4 p.2.2.2.length c4) := hd4; with_reducible exact ⟨q0, q1, q2, q3, q4, q5⟩) | (have q0 : World.cell? _ ⟨w.heap.size, 0, none⟩ = some (.int .i64 r) := (far4 (g := w.heap.size + 1) (a := ⟨w.heap.size, 0, none⟩) (by dsimp only; omega) (.bool p.1) (.slice A2 p.2.1.length c2) (.slice A3 p.2.2.1.length c3) (.slice A4 p.2.2.2.length c4)).trans (kb.cell 0); have q1 : World.cell? _ ⟨w.heap.size, 1, none⟩ = some (.slice (some ⟨g, off, none⟩) x.length c0) := (far4 (g := w.heap.size + 1) (a := ⟨w.heap.size, 1, none⟩) (by dsimp only; omega) (.bool p.1) (.slice A2 p.2.1.length c2) (.slice A3 p.2.2.1.length c3) (.slice A4 p.2.2.2.length c4)).trans (kb.cell 1); have q2 : World.cell? _ ⟨g, off + i * 5 + 1, none⟩ = some (.bool p.1) := (far4 (g := w.heap.size + 1) (a := ⟨g, off + i * 5 + 1, none⟩) (by dsimp only; omega) (.bool p.1) (.slice A2 p.2.1.length c2) (.slice A3 p.2.2.1.length c3) (.slice A4 p.2.2.2.length c4)).trans (hd1); have q3 : World.cell? _ ⟨g, off + i * 5 + 2, none⟩ = some (.slice A2 p.2.1.length c2) := (far4 (g := w.heap.size + 1) (a := ⟨g, off + i * 5 + 2, none⟩) (by dsimp only; omega) (.bool p.1) (.slice A2 p.2.1.length c2) (.slice A3 p.2.2.1.length c3) (.slice A4 p.2.2.2.length c4)).trans (hd2); have q4 : World.cell? _ ⟨g, off + i * 5 + 3, none⟩ = some (.slice A3 p.2.2.1.length c3) := (far4 (g := w.heap.size + 1) (a := ⟨g, off + i * 5 + 3, none⟩) (by dsimp only; omega) (.bool p.1) (.slice A2 p.2.1.length c2) (.slice A3 p.2.2.1.length c3) (.slice A4 p.2.2.2.length c4)).trans (hd3); have q5 : World.cell? _ ⟨g, off + i * 5 + 4, none⟩ = some (.slice A4 p.2.2.2.length c4) := (far4 (g := w.heap.size + 1) (a := ⟨g, off + i * 5 + 4, none⟩) (by dsimp only; omega) (.bool p.1) (.slice A2 p.2.1.length c2) (.slice A3 p.2.2.1.length c3) (.slice A4 p.2.2.2.length c4)).trans (hd4); with_reducible exact ⟨q0, q1, q2, q3, q4, q5⟩))
    (first
      | (go_at_call 104
         refine (CA.out _ (Up.refl W0).drew).mono ?_
         rintro e w1 ⟨n, rfl, u1, hn⟩
         replace kb := kb.up u1
         replace kr := kr.up u1
         have uF := uu.drew.trans u1
         have z1 := u1.size
         have hni : n = (i : Int) := by
           rcases hn with ⟨_, hn⟩ | ⟨k, hk, e, he⟩
           · exact (HN.out hn).elim
           · rw [e, HI.out k hk he]
         subst hni
         clear hn
         have uH := (Up.refl W0).drew.trans u1
         have hd1 : w1.cell? _ = _ := (u1.cell (cell_lt hc1)).trans hc1
         have hd2 : w1.cell? _ = _ := (u1.cell (cell_lt hc2)).trans hc2
         have hd3 : w1.cell? _ = _ := (u1.cell (cell_lt hc3)).trans hc3
         have hd4 : w1.cell? _ = _ := (u1.cell (cell_lt hc4)).trans hc4
         have gr0 : w1.cell? ⟨w.heap.size + 1, 0, none⟩ = some (.bool false) := kr.cell 0
         have fr0 := kr.frozen 0
         have gr1 : w1.cell? ⟨w.heap.size + 1, 1, none⟩ = some (.slice none 0 0) := kr.cell 1
         have fr1 := kr.frozen 1
         have gr2 : w1.cell? ⟨w.heap.size + 1, 2, none⟩ = some (.slice none 0 0) := kr.cell 2
         have fr2 := kr.frozen 2
         have gr3 : w1.cell? ⟨w.heap.size + 1, 3, none⟩ = some (.slice none 0 0) := kr.cell 3
         have fr3 := kr.frozen 3))
  have bt : But (w.heap.size + 1) w1 ((((w1.setCell ⟨w.heap.size + 1, 0, none⟩ (.bool p.1)).setCell ⟨w.heap.size + 1, 1, none⟩ (.slice A2 p.2.1.length c2)).setCell ⟨w.heap.size + 1, 2, none⟩ (.slice A3 p.2.2.1.length c3)).setCell ⟨w.heap.size + 1, 3, none⟩ (.slice A4 p.2.2.2.length c4)) := But.sets (g := w.heap.size + 1) [.bool p.1, .slice A2 p.2.1.length c2, .slice A3 p.2.2.1.length c3, .slice A4 p.2.2.2.length c4] w1 0
  have krE : Bk ((((w1.setCell ⟨w.heap.size + 1, 0, none⟩ (.bool p.1)).setCell ⟨w.heap.size + 1, 1, none⟩ (.slice A2 p.2.1.length c2)).setCell ⟨w.heap.size + 1, 2, none⟩ (.slice A3 p.2.2.1.length c3)).setCell ⟨w.heap.size + 1, 3, none⟩ (.slice A4 p.2.2.2.length c4)) (w.heap.size + 1) 88 #[.bool p.1, .slice A2 p.2.1.length c2, .slice A3 p.2.2.1.length c3, .slice A4 p.2.2.2.length c4] := kr.setsL [.bool p.1, .slice A2 p.2.1.length c2, .slice A3 p.2.2.1.length c3, .slice A4 p.2.2.2.length c4] 0
  generalize ((((w1.setCell ⟨w.heap.size + 1, 0, none⟩ (.bool p.1)).setCell ⟨w.heap.size + 1, 1, none⟩ (.slice A2 p.2.1.length c2)).setCell ⟨w.heap.size + 1, 2, none⟩ (.slice A3 p.2.2.1.length c3)).setCell ⟨w.heap.size + 1, 3, none⟩ (.slice A4 p.2.2.2.length c4)) = W4 at bt krE ⊢
  clear gr0 fr0 gr1 fr1 gr2 fr2 gr3 fr3
  go_wp2_with fail
  refine bodyPost_ret (results_bk krE _ _ Tryz.results92 rfl Tryz.underlying88 rfl (by kernel_rfl)) rfl ?_
  have u4 := uF.but bt (by omega)
  have kp : Keeps 0 H W0 W4 := fun y _ h2 => (bt.block y (by omega)).trans (uH.block y (by omega))
  exact ⟨_, rfl, mkPage (x := p) (SR.keep good_S b2 kp) (SR.keep good_S b3 kp) (SR.keep good_I b4 kp), u4⟩
end Go.Proofs.YtpjcgglhlmifdaaGreatDoor
