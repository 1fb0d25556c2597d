/-
  BtAfter: the program's.
-/
import Derived.Test.YtlifhbfomgbiaaaGreatDoorMRx
namespace Go.Proofs.YtlifhbfomgbiaaaGreatDoor
open Go.RowKit
set_option linter.unusedVariables false
set_option linter.unusedSimpArgs false

set_option maxRecDepth 100000 in
set_option maxHeartbeats 8000000 in
theorem ci_BtAfter (v : Value) (y : TBtree) (key : ByteArray) (w : World) (h : AV shBtree w v y) (hn : shBtree.sz y ≤ 1048576) (hk : key.size ≤ 9223372036854775807) (hks : key.size ≤ 1048576) (htab : Tab w) (hm : MaxL w) : Calls Tryz.prog 31 #[v, .string key] w (RetV (afterV y key) w) := by
  have hv := h
  obtain ⟨cs, rfl, h⟩ := h
  obtain ⟨r, x⟩ := y
  have ho := openBtree h
  dsimp only at ho
  obtain ⟨A0, c0, rfl, br, b00⟩ := ho
  clear h hk hks
  have kT := (Bk.new w 39 #[.int .i64 r, .slice A0 x.length c0]).alloc (.cells #[.string ⟨#[]⟩, .string ⟨#[]⟩] 61)
  have kr : Bk ((w.alloc (.cells #[.int .i64 r, .slice A0 x.length c0] 39)).alloc (.cells #[.string ⟨#[]⟩, .string ⟨#[]⟩] 61)) (w.heap.size + 1) 61 #[.string ⟨#[]⟩, .string ⟨#[]⟩] := by
    simpa using Bk.new (w.alloc (.cells #[.int .i64 r, .slice A0 x.length c0] 39)) 61 #[.string ⟨#[]⟩, .string ⟨#[]⟩]
  have uu : Up w ((w.alloc (.cells #[.int .i64 r, .slice A0 x.length c0] 39)).alloc (.cells #[.string ⟨#[]⟩, .string ⟨#[]⟩] 61)) := ((Up.refl w).alloc _).alloc _
  have CR := Lib.hid (ci_BtRecords _ (r, x) _ (hv.up good_Btree uu) hn (tab_up htab uu) (maxL_up hm uu))
  have g0 : World.cell? _ ⟨w.heap.size, 0, none⟩ = some (.int .i64 r) := kT.cell 0
  have g1 : World.cell? _ ⟨w.heap.size, 1, none⟩ = some (.slice A0 x.length c0) := kT.cell 1
  have H0 := Lib.hid (fun h2 => afterV_none (x := (r, x)) (key := key) (L := recordsB (r, x)) rfl h2)
  have H1 := Lib.hid (fun k hk h2 h3 => afterV_some (x := (r, x)) (key := key) (L := recordsB (r, x)) rfl (k := k) hk h2 h3)
  generalize afterV (r, x) key = R at H0 H1 ⊢
  generalize recordsB (r, x) = L at H0 H1 CR
  go_enter Tryz.func31, Tryz.ntmps31
  go_wp2_with fail
  refine CR.out.mono ?_
  rintro e w1 ⟨A, c, rfl, sr, u1⟩
  have kr1 := kr.up u1
  have U1 := uu.trans u1
  have hll := sr.len_le
  clear g0 g1 CR
  go_wp2_with fail
  go_loopw [11] (fun i wr => ∃ k : Nat, k ≤ L.length ∧ i = .int .i64 k ∧ Hid (∀ j (hj : j < L.length), j < k → bytesLt key L[j].1 = false) ∧ Up w1 wr) (fun i _ => L.length - (intOf i).toNat)
  case atStart => exact ⟨0, Nat.zero_le _, rfl, Lib.hid (fun j hj h1 => absurd h1 (by omega)), Up.refl _⟩
  case round =>
    obtain ⟨k, hk, rfl, HBf, hu⟩ := hrel
    have kr2 := kr1.up hu
    have U2 := U1.trans hu
    have zA := hu.size
    have zB := U1.size
    by_cases hlt : k < L.length
    · obtain ⟨g, off, rfl, _, _, hc0, hc1, _, _⟩ := atRec (sr.up good_Rec hu) hlt
      have kq := Bk.new wr 61 #[.string L[k].1, .string L[k].2]
      have uq : Up wr (wr.alloc (.cells #[.string L[k].1, .string L[k].2] 61)) := (Up.refl _).alloc _
      have gq0 : (wr.alloc (.cells #[.string L[k].1, .string L[k].2] 61)).cell? ⟨wr.heap.size, 0, none⟩ = some (.string L[k].1) := kq.cell 0
      have gq1 : (wr.alloc (.cells #[.string L[k].1, .string L[k].2] 61)).cell? ⟨wr.heap.size, 1, none⟩ = some (.string L[k].2) := kq.cell 1
      cases hp : bytesLt key L[k].1
      · have HNx : Hid (∀ j (hj : j < L.length), j < k + 1 → bytesLt key L[j].1 = false) := Lib.hid (fun j hj h1 => by
          by_cases q : j = k
          · subst q; exact hp
          · exact HBf.out j hj (by omega))
        cases hq : Op.bytesLess L[k].1.toList key.toList
        · have hqe : (L[k].1.toList == key.toList) = true := by
            have := bytes_con hq hp
            rw [this]; simp
          clear hp
          go_wp2_with fail
          go_roundw
          case rel => exact ⟨k + 1, by omega, by go_num, HNx, hu.trans uq⟩
          case measure => simp [intOf]; omega
        · clear hp
          go_wp2_with fail
          go_roundw
          case rel => exact ⟨k + 1, by omega, by go_num, HNx, hu.trans uq⟩
          case measure => simp [intOf]; omega
      · have hq1 : Op.bytesLess L[k].1.toList key.toList = false := by
          cases hq : Op.bytesLess L[k].1.toList key.toList
          · rfl
          · have h1 := lo_bytes.tr _ _ _ hp hq
            rw [lo_bytes.irr] at h1
            cases h1
        have hq2 : (L[k].1.toList == key.toList) = false := by
          cases hq : (L[k].1.toList == key.toList)
          · rfl
          · have h1 : bytesLt key L[k].1 = bytesLt key key := by unfold bytesLt; rw [beq_iff_eq.1 hq]
            rw [h1, lo_bytes.irr] at hp
            cases hp
        have HE := Lib.hid (H1.out k hlt HBf.out hp)
        have kr3 := kr2.up uq
        have gr0 : (wr.alloc (.cells #[.string L[k].1, .string L[k].2] 61)).cell? ⟨w.heap.size + 1, 0, none⟩ = some (.string ⟨#[]⟩) := kr3.cell 0
        have fr0 := kr3.frozen 0
        have gr1 : (wr.alloc (.cells #[.string L[k].1, .string L[k].2] 61)).cell? ⟨w.heap.size + 1, 1, none⟩ = some (.string ⟨#[]⟩) := kr3.cell 1
        have fr1 := kr3.frozen 1
        have bt : But (w.heap.size + 1) (wr.alloc (.cells #[.string L[k].1, .string L[k].2] 61)) (((wr.alloc (.cells #[.string L[k].1, .string L[k].2] 61)).setCell ⟨w.heap.size + 1, 0, none⟩ (.string L[k].1)).setCell ⟨w.heap.size + 1, 1, none⟩ (.string L[k].2)) := But.sets (g := w.heap.size + 1) [.string L[k].1, .string L[k].2] (wr.alloc (.cells #[.string L[k].1, .string L[k].2] 61)) 0
        have krE : Bk (((wr.alloc (.cells #[.string L[k].1, .string L[k].2] 61)).setCell ⟨w.heap.size + 1, 0, none⟩ (.string L[k].1)).setCell ⟨w.heap.size + 1, 1, none⟩ (.string L[k].2)) (w.heap.size + 1) 61 #[.string L[k].1, .string L[k].2] := kr3.setsL [.string L[k].1, .string L[k].2] 0
        clear H0 H1 hp
        go_wp2_with fail
        refine bodyPost_ret (results_bk2 krE _ _ _ Tryz.results31 rfl rfl Tryz.underlying61 rfl (by kernel_rfl)) rfl ?_
        exact ⟨by rw [HE.out]; rfl, (U2.trans uq).but bt (by omega)⟩
    · have HE := Lib.hid (H0.out (fun j hj => HBf.out j hj (by omega)))
      obtain rfl : k = L.length := by omega
      have gr0 : wr.cell? ⟨w.heap.size + 1, 0, none⟩ = some (.string ⟨#[]⟩) := kr2.cell 0
      have fr0 := kr2.frozen 0
      have gr1 : wr.cell? ⟨w.heap.size + 1, 1, none⟩ = some (.string ⟨#[]⟩) := kr2.cell 1
      have fr1 := kr2.frozen 1
      have bt : But (w.heap.size + 1) wr ((wr.setCell ⟨w.heap.size + 1, 0, none⟩ (.string ⟨#[]⟩)).setCell ⟨w.heap.size + 1, 1, none⟩ (.string ⟨#[]⟩)) := But.sets (g := w.heap.size + 1) [.string ⟨#[]⟩, .string ⟨#[]⟩] wr 0
      have krE : Bk ((wr.setCell ⟨w.heap.size + 1, 0, none⟩ (.string ⟨#[]⟩)).setCell ⟨w.heap.size + 1, 1, none⟩ (.string ⟨#[]⟩)) (w.heap.size + 1) 61 #[.string ⟨#[]⟩, .string ⟨#[]⟩] := kr2.setsL [.string ⟨#[]⟩, .string ⟨#[]⟩] 0
      clear H0 H1
      go_wp2_with fail
      refine bodyPost_ret (results_bk2 krE _ _ _ Tryz.results31 rfl rfl Tryz.underlying61 rfl (by kernel_rfl)) rfl ?_
      exact ⟨by rw [HE.out]; rfl, U2.but bt (by omega)⟩
end Go.Proofs.YtlifhbfomgbiaaaGreatDoor
