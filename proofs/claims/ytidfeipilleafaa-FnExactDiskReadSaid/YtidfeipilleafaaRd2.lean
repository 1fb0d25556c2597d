/-
  DiskRead: the program's and the reference's give one string and one code.
-/
import Derived.Test.YtidfeipilleafaaRd
namespace Go.Proofs.Ytidfeipilleafaa
open Go.RowKit
set_option linter.unusedVariables false
set_option linter.unusedSimpArgs false

def diskRead (d : TDisk) (n : Int) : Value := if diskOk d = true then (if inB n 0 ((d.2.1.length : Int) - 1) = true then .tuple #[.string (readS d n), .int .i64 0] else .tuple #[.string ⟨#[]⟩, .int .i64 2]) else .tuple #[.string ⟨#[]⟩, .int .i64 1]
set_option maxRecDepth 100000 in
set_option maxHeartbeats 4000000 in
theorem ci0_DiskRead (v : Value) (x : TDisk) (n : Int) (w : World) (h : AV shDisk w v x) (hn : shDisk.sz x ≤ 1048576) (hI : I64 n) : Calls Try.prog 44 #[v, .int .i64 n] w (RetV (diskRead x n) w) := by
  have hv := h
  obtain ⟨cs, rfl, h⟩ := h
  obtain ⟨A1, c1, A2, c2, rfl, b0, b1, b2⟩ := openDisk h
  clear h
  have hl2 := b2.len_le
  obtain ⟨hnL, hnH⟩ := id hI
  have uu : Up w (w.alloc (.cells #[.int .i64 x.1, .slice A1 x.2.1.length c1, .slice A2 x.2.2.length c2] 46)) := (Up.refl _).alloc _
  have kA : Bk (w.alloc (.cells #[.int .i64 x.1, .slice A1 x.2.1.length c1, .slice A2 x.2.2.length c2] 46)) w.heap.size 46 #[.int .i64 x.1, .slice A1 x.2.1.length c1, .slice A2 x.2.2.length c2] := Bk.new _ _ _
  go_enter Try.func44, Try.ntmps44
  go_wp2_with (refine wpList_load_bk [.int .i64 x.1, .slice A1 x.2.1.length c1, .slice A2 x.2.2.length c2] kA rfl Try.underlying46 rfl (by kernel_rfl) rfl ?_)
  refine (ci_DiskOk _ x _ (hv.up good_Disk uu) hn).mono ?_
  rintro e w1 ⟨rfl, u⟩
  replace uu := uu.trans u
  replace kA := kA.up u
  clear u
  cases hok : diskOk x
  · have HD : Hid (diskRead x n = .tuple #[.string ⟨#[]⟩, .int .i64 1]) := by unfold Hid; simp [diskRead, hok]
    go_wp2_with fail
    go_ret2
    exact ⟨by rw [HD.out]; first | done | rfl, uu⟩
  · go_wp2_with (refine wpList_load_bk [.int .i64 x.1, .slice A1 x.2.1.length c1, .slice A2 x.2.2.length c2] kA rfl Try.underlying46 rfl (by kernel_rfl) rfl ?_)
    refine (c_has _ x n _ (hv.up good_Disk uu)).mono ?_
    rintro e w2 ⟨rfl, u⟩
    replace uu := uu.trans u
    replace kA := kA.up u
    clear u
    cases q1 : inB n 0 (x.2.1.length - 1)
    · have HD : Hid (diskRead x n = .tuple #[.string ⟨#[]⟩, .int .i64 2]) := by unfold Hid; simp [diskRead, hok, q1]
      go_wp2_with fail
      go_ret2
      exact ⟨by rw [HD.out]; first | done | rfl, uu⟩
    · have q1' := inB_t.1 q1
      obtain ⟨m, rfl⟩ : ∃ m : Nat, n = (m : Int) := ⟨n.toNat, by omega⟩
      have hm : m < x.2.1.length := by omega
      have HD : Hid (diskRead x (m : Int) = .tuple #[.string (readS x (m : Int)), .int .i64 0]) := by unfold Hid; simp [diskRead, hok, q1]
      go_wp2_with (refine wpList_load_bk [.int .i64 x.1, .slice A1 x.2.1.length c1, .slice A2 x.2.2.length c2] kA rfl Try.underlying46 rfl (by kernel_rfl) rfl ?_)
      refine (c_read _ x m _ (hv.up good_Disk uu) hm).mono ?_
      rintro e w3 ⟨rfl, u⟩
      go_wp2_with fail
      go_ret2
      exact ⟨by rw [HD.out]; first | done | rfl, uu.trans u⟩
set_option maxRecDepth 100000 in
set_option maxHeartbeats 4000000 in
theorem cs0_DiskRead (v : Value) (x : TDisk) (n : Int) (w : World) (h : AV shDisk w v x) (hn : shDisk.sz x ≤ 1048576) (hI : I64 n) : Calls Try.prog 43 #[v, .int .i64 n] w (RetV (diskRead x n) w) := by
  have hv := h
  obtain ⟨cs, rfl, h⟩ := h
  obtain ⟨A1, c1, A2, c2, rfl, b0, b1, b2⟩ := openDisk h
  clear h
  have hl2 := b2.len_le
  obtain ⟨hnL, hnH⟩ := id hI
  have uu : Up w (w.alloc (.cells #[.int .i64 x.1, .slice A1 x.2.1.length c1, .slice A2 x.2.2.length c2] 46)) := (Up.refl _).alloc _
  have kA : Bk (w.alloc (.cells #[.int .i64 x.1, .slice A1 x.2.1.length c1, .slice A2 x.2.2.length c2] 46)) w.heap.size 46 #[.int .i64 x.1, .slice A1 x.2.1.length c1, .slice A2 x.2.2.length c2] := Bk.new _ _ _
  go_enter Try.func43, Try.ntmps43
  go_wp2_with (refine wpList_load_bk [.int .i64 x.1, .slice A1 x.2.1.length c1, .slice A2 x.2.2.length c2] kA rfl Try.underlying46 rfl (by kernel_rfl) rfl ?_)
  refine (cs_DiskOk _ x _ (hv.up good_Disk uu) hn).mono ?_
  rintro e w1 ⟨rfl, u⟩
  replace uu := uu.trans u
  replace kA := kA.up u
  clear u
  cases hok : diskOk x
  · have HD : Hid (diskRead x n = .tuple #[.string ⟨#[]⟩, .int .i64 1]) := by unfold Hid; simp [diskRead, hok]
    go_wp2_with fail
    go_ret2
    exact ⟨by rw [HD.out]; first | done | rfl, uu⟩
  · go_wp2_with (refine wpList_load_bk [.int .i64 x.1, .slice A1 x.2.1.length c1, .slice A2 x.2.2.length c2] kA rfl Try.underlying46 rfl (by kernel_rfl) rfl ?_)
    refine (c_l17Has _ x n _ (hv.up good_Disk uu)).mono ?_
    rintro e w2 ⟨rfl, u⟩
    replace uu := uu.trans u
    replace kA := kA.up u
    clear u
    cases q1 : inB n 0 (x.2.1.length - 1)
    · have HD : Hid (diskRead x n = .tuple #[.string ⟨#[]⟩, .int .i64 2]) := by unfold Hid; simp [diskRead, hok, q1]
      go_wp2_with fail
      go_ret2
      exact ⟨by rw [HD.out]; first | done | rfl, uu⟩
    · have q1' := inB_t.1 q1
      obtain ⟨m, rfl⟩ : ∃ m : Nat, n = (m : Int) := ⟨n.toNat, by omega⟩
      have hm : m < x.2.1.length := by omega
      have HD : Hid (diskRead x (m : Int) = .tuple #[.string (readS x (m : Int)), .int .i64 0]) := by unfold Hid; simp [diskRead, hok, q1]
      have ca2 : w2.cell? ⟨w.heap.size, 2, none⟩ = some (.slice A2 x.2.2.length c2) := kA.cell 2
      have hwl : IntKind.i64.wrap ((x.2.2.length : Int) - 1) = (x.2.2.length : Int) - 1 := IntWalk.i64_in _ (by omega)
      go_wp2_with fail
      go_loopw [6] (fun i wr => ∃ (j : Nat) (z : Int), j ≤ x.2.2.length ∧ i = .int .i64 z ∧ z = (j : Int) - 1 ∧ Hid (∀ q, j ≤ q → q < x.2.2.length → (pAt x.2.2 q).1 ≠ (m : Int)) ∧ Bk wr w.heap.size 46 #[.int .i64 x.1, .slice A1 x.2.1.length c1, .slice A2 x.2.2.length c2] ∧ Up w wr) (fun i _ => (intOf i + 1).toNat)
      case atStart => exact ⟨x.2.2.length, _, Nat.le_refl _, rfl, rfl, Lib.hid (fun q h1 h2 => by omega), kA, uu⟩
      case round =>
        clear kA uu ca2
        obtain ⟨j, z, hj, rfl, hz, HN, kA, uu⟩ := hrel
        cases j with
        | zero =>
          have hz1 : ¬ (0 : Int) ≤ z := by omega
          clear hz
          obtain ⟨g, off, rfl, _, _, hcs, _⟩ := (b1.up good_S uu).at_S hm
          have ca1 : wr.cell? ⟨w.heap.size, 1, none⟩ = some (.slice (some ⟨g, off, none⟩) x.2.1.length c1) := kA.cell 1
          have hm0 : (0 : Int) ≤ (m : Int) := by omega
          have hm1 : (m : Int) < (x.2.1.length : Int) := by omega
          have HV : Hid (readS x (m : Int) = x.2.1[m]) := Lib.hid (by unfold readS; rw [readTo_skip _ _ _ 0 _ (Nat.zero_le _) (fun q h1 h2 => HN.out q h1 h2)]; simp [readTo, hm])
          go_wp2_with fail
          go_ret2
          exact ⟨by rw [HD.out, HV.out]; first | done | rfl, uu⟩
        | succ k =>
          obtain rfl : z = (k : Int) := by omega
          clear hz
          obtain ⟨g, off, rfl, _, _, hc0, hc1, _, _, _⟩ := atPut (b2.up good_Put uu) (show k < x.2.2.length by omega)
          rw [← pAt_at (show k < x.2.2.length by omega)] at hc0 hc1
          have ca2 : wr.cell? ⟨w.heap.size, 2, none⟩ = some (.slice (some ⟨g, off, none⟩) x.2.2.length c2) := kA.cell 2
          have hk0 : (0 : Int) ≤ (k : Int) := by omega
          have hk1 : (k : Int) < (x.2.2.length : Int) := by omega
          have hwk : IntKind.i64.wrap ((k : Int) - 1) = (k : Int) - 1 := IntWalk.i64_in _ (by omega)
          by_cases hq : (pAt x.2.2 k).1 = (m : Int)
          · have HV : Hid (readS x (m : Int) = (pAt x.2.2 k).2) := Lib.hid (by unfold readS; rw [readTo_skip _ _ _ (k + 1) _ (by omega) (fun q h1 h2 => HN.out q h1 h2), readTo, if_pos hq])
            go_wp2_with fail
            go_ret2
            exact ⟨by rw [HD.out, HV.out]; first | done | rfl, uu⟩
          · go_wp2_with fail
            go_roundw
            case rel => exact ⟨k, _, by omega, rfl, rfl, Lib.hid (fun q h1 h2 => by
              rcases Nat.eq_or_lt_of_le h1 with rfl | h1
              · exact hq
              · exact HN.out q h1 h2), kA, uu⟩
            case measure => simp [intOf]
def rdS (d : TDisk) (n : Int) : ByteArray := if diskOk d = true then (if inB n 0 ((d.2.1.length : Int) - 1) = true then readS d n else ⟨#[]⟩) else ⟨#[]⟩
def rdC (d : TDisk) (n : Int) : Int := if diskOk d = true then (if inB n 0 ((d.2.1.length : Int) - 1) = true then 0 else 2) else 1
theorem diskRead_eq (d : TDisk) (n : Int) : diskRead d n = .tuple #[.string (rdS d n), .int .i64 (rdC d n)] := by
  unfold diskRead rdS rdC
  split
  · split <;> rfl
  · rfl
theorem ci_DiskRead (v : Value) (x : TDisk) (n : Int) (w : World) (h : AV shDisk w v x) (hn : shDisk.sz x ≤ 1048576) (hI : I64 n) : Calls Try.prog 44 #[v, .int .i64 n] w (RetV (.tuple #[.string (rdS x n), .int .i64 (rdC x n)]) w) := by
  rw [← diskRead_eq]
  exact ci0_DiskRead v x n w h hn hI
theorem cs_DiskRead (v : Value) (x : TDisk) (n : Int) (w : World) (h : AV shDisk w v x) (hn : shDisk.sz x ≤ 1048576) (hI : I64 n) : Calls Try.prog 43 #[v, .int .i64 n] w (RetV (.tuple #[.string (rdS x n), .int .i64 (rdC x n)]) w) := by
  rw [← diskRead_eq]
  exact cs0_DiskRead v x n w h hn hI

end Go.Proofs.Ytidfeipilleafaa
