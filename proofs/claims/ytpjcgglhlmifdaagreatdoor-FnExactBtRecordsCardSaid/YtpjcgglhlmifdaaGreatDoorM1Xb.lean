/-
  BtRecords: the reference's (not built yet: r9's seat has no spec.BtRecords).
-/
import Derived.Test.YtpjcgglhlmifdaaGreatDoorM1Ry
namespace Go.Proofs.YtpjcgglhlmifdaaGreatDoor
open Go.RowKit
set_option linter.unusedVariables false
set_option linter.unusedSimpArgs false

set_option maxRecDepth 100000 in
set_option maxHeartbeats 8000000 in
theorem cs0_BtRecords (v : Value) (y : TBtree) (w : World) (h : AV shBtree w v y) (hn : shBtree.sz y ≤ 1048576) : Calls Tryz.prog 11 #[v] w (ToL shRecord (recordsB y) w) := by
  have hv := h
  obtain ⟨cs, rfl, h⟩ := h
  obtain ⟨r, x⟩ := y
  have ho := openBtree h
  dsimp only at ho
  obtain ⟨A0, c0, rfl, br, b00⟩ := ho
  clear h
  have kT := Bk.new w 30 #[.int .i64 r, .slice A0 x.length c0]
  have uu : Up w (w.alloc (.cells #[.int .i64 r, .slice A0 x.length c0] 30)) := (Up.refl w).alloc _
  have CB := Lib.hid (cs_BtreeOk _ (r, x) _ (hv.up good_Btree uu) hn)
  have g0 : World.cell? _ ⟨w.heap.size, 0, none⟩ = some (.int .i64 r) := kT.cell 0
  have g1 : World.cell? _ ⟨w.heap.size, 1, none⟩ = some (.slice A0 x.length c0) := kT.cell 1
  have HE0 := Lib.hid (fun (hb : btreeB (r, x) = false) => show recordsB (r, x) = [] by unfold recordsB; rw [if_neg (by rw [hb]; decide)])
  have HE1 := Lib.hid (fun (hb : btreeB (r, x) = true) => show recordsB (r, x) = gatherB (r, x) 64 r by unfold recordsB; rw [if_pos hb])
  generalize recordsB (r, x) = L at HE0 HE1 ⊢
  go_enter Tryz.func11, Tryz.ntmps11
  go_wp2_with fail
  refine CB.out.mono ?_
  rintro e w1 ⟨rfl, u1⟩
  have U1 := uu.trans u1
  have kT1 := kT.up u1
  cases hb : btreeB (r, x)
  · have HE := Lib.hid (HE0.out hb)
    clear hb CB g0 g1 HE0 HE1
    go_wp2_with fail
    refine bodyPost_ret (v := .slice (some ⟨w1.heap.size, 0, none⟩) 0 0) (by simp [results, Tryz.results11, go_sem]) rfl ?_
    have hL := HE.out
    subst hL
    exact ⟨_, 0, [], rfl, ⟨Nat.le_refl _, Nat.zero_le _, .inl ⟨rfl, rfl, rfl⟩⟩, List.nodup_nil, U1.alloc _⟩
  · have hs := slots_of_btree hb
    have CG := Lib.hid (c_gather hs 64 r w1 w.heap.size U1.size (mkBtree (x := (r, x)) br (SR.keep good_Slot b00 (U1.keeps (Nat.le_refl _)))) (stands_root hb) (gather_root hb) br)
    have HE := Lib.hid (HE1.out hb)
    rw [← HE.out] at CG
    have g0' : w1.cell? ⟨w.heap.size, 0, none⟩ = some (.int .i64 r) := kT1.cell 0
    have g1' : w1.cell? ⟨w.heap.size, 1, none⟩ = some (.slice A0 x.length c0) := kT1.cell 1
    have z1 := U1.size
    clear hb CB g0 g1 hs HE0 HE1
    go_wp2_with fail
    refine CG.out.mono ?_
    rintro e w2 ⟨D, d, bl, rfl, so, nd, u2⟩
    go_wp2_with fail
    refine bodyPost_ret (v := .slice D L.length d) (by simp [results, Tryz.results11, go_sem]) rfl ?_
    exact ⟨D, d, bl, rfl, so.wide good_Record (lo' := w.heap.size) z1 (Nat.le_refl _), nd, U1.trans u2⟩
end Go.Proofs.YtpjcgglhlmifdaaGreatDoor
