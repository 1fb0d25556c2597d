/-
  slices.Grow and slices.Concat at strings.
-/
import Derived.Test.YtanjmolgpkffoaaGreatDoorM2Pn
import Derived.Lib.AppendZeros
namespace Go.Proofs.YtanjmolgpkffoaaGreatDoor
open Go.RowKit
set_option linter.unusedVariables false
set_option linter.unusedSimpArgs false

theorem flat_nil (n : Nat) : (List.replicate n ([] : List Nat)).flatten = [] := by induction n with
  | zero => rfl
  | succ n ih => simp [List.replicate_succ]
set_option maxRecDepth 100000 in
set_option maxHeartbeats 4000000 in
theorem c_GrowS (n : Nat) (w : World) (hn : n ≤ 10000000) : Calls Tryz.prog 167 #[.slice none 0 0, .int .i64 (n : Int)] w fun e w' => ∃ D d bl, e = .returned (.slice D 0 d) ∧ SO shS w' w.heap.size w'.heap.size D d [] bl ∧ bl.Nodup ∧ Up w w' := by
  obtain ⟨i2, hi2, hz0, hz1, hz2⟩ := info_parts cinfo_StringS
  rcases Nat.eq_zero_or_pos n with h0 | h0
  · subst h0
    go_enter Tryz.func167, Tryz.ntmps167
    go_wp2_with fail
    go_ret
    exact ⟨none, 0, [], rfl, SO.nil _ _ _, by simp, Up.refl _⟩
  · have hr : ∀ ty, (Builtin.append_ #[25, 3] ty #[.slice none 0 0, .int .i64 (n : Int)]).run Tryz.prog w = _ := fun ty => Lib.run_append_nil_zeros (P := Tryz.prog) w 25 3 ty 9 i2 _ .i64 .i64 Tryz.underlying25 Tryz.underlying3 hi2 hz0 n h0 (by rw [hz1]; omega) (by omega) (by rw [hz2]; omega)
    have hge := grownCap_ge w n 0 9
    have hcm : grownCap w n 0 9 ≤ maxLen := grownCap_le_maxLen w n 0 _ (by unfold maxLen; omega)
    have hcm' := hcm
    unfold maxLen at hcm'
    have hpos : (0 : Int) < (n : Int) := by omega
    have hu : Up w (w.drew.alloc (.cells (Builtin.zeroCells (Value.cells (.string ⟨#[]⟩)) n ++ Builtin.zeroCells (Value.cells (.string ⟨#[]⟩)) (grownCap w n 0 9 - n)) 9)) := (Up.refl w).drew.alloc _
    have hso : SO shS (w.drew.alloc (.cells (Builtin.zeroCells (Value.cells (.string ⟨#[]⟩)) n ++ Builtin.zeroCells (Value.cells (.string ⟨#[]⟩)) (grownCap w n 0 9 - n)) 9)) w.heap.size (w.drew.alloc (.cells (Builtin.zeroCells (Value.cells (.string ⟨#[]⟩)) n ++ Builtin.zeroCells (Value.cells (.string ⟨#[]⟩)) (grownCap w n 0 9 - n)) 9)).heap.size (some ⟨w.heap.size, 0, none⟩) (grownCap w n 0 9) [] [w.heap.size] := by
      refine ⟨Nat.zero_le _, hcm, .inr ⟨w.heap.size, 0, _, 9, [], rfl, Nat.le_refl _, by simp, heap_alloc_new w.drew _, ?_, rfl, rfl, fun i hi => absurd hi (by simp)⟩⟩
      rw [Array.size_append, size_zeroCells, size_zeroCells, ← Nat.add_mul, Nat.zero_add]
      exact Nat.mul_le_mul (by omega) (by decide)
    obtain ⟨W, hW⟩ : ∃ W, W = w.drew.alloc (.cells (Builtin.zeroCells (Value.cells (.string ⟨#[]⟩)) n ++ Builtin.zeroCells (Value.cells (.string ⟨#[]⟩)) (grownCap w n 0 9 - n)) 9) := ⟨_, rfl⟩
    rw [← hW] at hr hu hso
    clear hW
    obtain ⟨G, hG⟩ : ∃ G, G = grownCap w n 0 9 := ⟨_, rfl⟩
    rw [← hG] at hr hso hcm' hge
    clear hG hcm
    go_enter Tryz.func167, Tryz.ntmps167
    go_wp2_with (first | (at_builtin; refine Lib.wpList_append_run _ rfl _ _ _ _ rfl _ _ rfl rfl _ _ (hr _) ?_))
    go_ret
    exact ⟨some ⟨w.heap.size, 0, none⟩, G, [w.heap.size], rfl, hso, by simp, hu⟩
set_option maxRecDepth 100000 in
set_option maxHeartbeats 8000000 in
theorem c_Concat2S (xs ys : List ByteArray) (A1 A2 : Option Addr) (c1 c2 B : Nat) (t : TypeId) (w : World) (h1 : SRW shS w A1 c1 xs) (h2 : SRW shS w A2 c2 ys) (hB : Bk w B t #[.slice A1 xs.length c1, .slice A2 ys.length c2])
    (n1 : xs.length ≤ 1048576) (n2 : ys.length ≤ 1048576) :
    Calls Tryz.prog 119 #[.slice (some ⟨B, 0, none⟩) 2 2] w (ToL shS (xs ++ ys) w) := by
  obtain ⟨i2, hi2, hz0, hz1, hz2⟩ := info_parts cinfo_StringS
  have g0 : w.cell? ⟨B, 0, none⟩ = some (.slice A1 xs.length c1) := hB.cell 0
  have g1 : w.cell? ⟨B, 1, none⟩ = some (.slice A2 ys.length c2) := hB.cell 1
  go_enter Tryz.func119, Tryz.ntmps119
  go_wp2_with fail
  go_loopw [3, 11] (fun s i wr => w = wr ∧ ((s = .int .i64 0 ∧ i = .int .i64 0) ∨ (s = .int .i64 xs.length ∧ i = .int .i64 1) ∨ (s = .int .i64 ((xs.length : Int) + ys.length) ∧ i = .int .i64 2))) (fun _ i _ => 2 - (intOf i).toNat)
  case atStart => exact ⟨by first | trivial | rfl, .inl ⟨rfl, rfl⟩⟩
  case round =>
    obtain ⟨rfl, hc⟩ := hrel
    rcases hc with ⟨rfl, rfl⟩ | ⟨rfl, rfl⟩ | ⟨rfl, rfl⟩
    · have hq : ¬ ((xs.length : Int) < 0) := by omega
      go_wp2_with fail
      go_roundw
      case rel => exact ⟨by first | trivial | rfl, .inr (.inl ⟨by go_num, rfl⟩)⟩
      case measure => simp [intOf]
    · have hq : ¬ ((xs.length : Int) + ys.length < 0) := by omega
      go_wp2_with fail
      go_roundw
      case rel => exact ⟨by first | trivial | rfl, .inr (.inr ⟨by go_num, rfl⟩)⟩
      case measure => simp [intOf]
    · have hs : ((xs.length : Int) + ys.length) = ((xs.length + ys.length : Nat) : Int) := by omega
      rw [hs]
      clear hs
      go_wp2_with fail
      refine (c_GrowS (xs.length + ys.length) _ (by omega)).mono ?_
      rintro e w1 ⟨D, d, bl, rfl, so, nd, u1⟩
      have kB := hB.up u1
      go_wp2_with fail
      go_loopw [6, 27] (fun v i wr => ∃ (done : List ByteArray) (D : Option Addr) (d : Nat) (bl : List Nat), v = .slice D done.length d ∧ SO shS wr w.heap.size wr.heap.size D d done bl ∧ bl.Nodup ∧ Up w wr ∧ (([] = done ∧ i = .int .i64 0) ∨ (xs = done ∧ i = .int .i64 1) ∨ (xs ++ ys = done ∧ i = .int .i64 2))) (fun _ i _ => 2 - (intOf i).toNat)
      case atStart => exact ⟨[], D, d, bl, rfl, so, nd, u1, .inl ⟨rfl, rfl⟩⟩
      case round =>
        clear so nd u1 kB
        obtain ⟨done, D, d, bl, rfl, so, nd, uq, hc⟩ := hrel
        have kq := hB.up uq
        have hlo := uq.size
        rcases hc with ⟨hd, rfl⟩ | ⟨hd, rfl⟩ | ⟨rfl, rfl⟩
        · have hdl : done.length ≤ 2097152 := by rw [← hd]; simp
          have HD := Lib.hid hd; clear hd
          have gq : wr.cell? ⟨B, 0, none⟩ = some (.slice A1 xs.length c1) := kq.cell 0
          obtain ⟨news, hsrc, hrow⟩ := (h1.up good_S uq).src (lo := w.heap.size) (hi := wr.heap.size) good_S flat_S (P := Tryz.prog) (n := i2.size) (tx := 25) Tryz.underlying25 hz1
          have hbb : (done.length + xs.length) * i2.bytes ≤ 140737488355328 := by rw [hz2]; omega
          have hmm : done.length + xs.length ≤ maxLen := by unfold maxLen; omega
          go_wp2_with (first
            | (at_builtin
               refine wpList_app good_S rfl _ _ _ _ 9 rfl i2 _ Tryz.underlying25 hi2 hz0 hz1 (by rfl) (lo := w.heap.size) (xs := done) (ys := xs) (bl := bl) (bs := List.replicate xs.length []) (news := news) rfl rfl so (by rw [flat_nil]; simpa using nd) hsrc hrow hlo hbb hmm ?_
               intro D2 d2 bl2 w2 hap
               obtain ⟨so2, nd2, mem2, on2⟩ := hap))
          go_roundw
          case rel => exact ⟨done ++ xs, D2, d2, bl2, by rw [List.length_append], so2, nd2, uq.only on2 (fun y hy => (so.in_ good_S y hy).1), .inr (.inl ⟨by rw [← HD.out]; simp, rfl⟩)⟩
          case measure => simp [intOf]
        · have hdl : done.length ≤ 2097152 := by rw [← hd]; (try simp); omega
          have HD := Lib.hid hd; clear hd
          have gq : wr.cell? ⟨B, 1, none⟩ = some (.slice A2 ys.length c2) := kq.cell 1
          obtain ⟨news, hsrc, hrow⟩ := (h2.up good_S uq).src (lo := w.heap.size) (hi := wr.heap.size) good_S flat_S (P := Tryz.prog) (n := i2.size) (tx := 25) Tryz.underlying25 hz1
          have hbb : (done.length + ys.length) * i2.bytes ≤ 140737488355328 := by rw [hz2]; omega
          have hmm : done.length + ys.length ≤ maxLen := by unfold maxLen; omega
          go_wp2_with (first
            | (at_builtin
               refine wpList_app good_S rfl _ _ _ _ 9 rfl i2 _ Tryz.underlying25 hi2 hz0 hz1 (by rfl) (lo := w.heap.size) (xs := done) (ys := ys) (bl := bl) (bs := List.replicate ys.length []) (news := news) rfl rfl so (by rw [flat_nil]; simpa using nd) hsrc hrow hlo hbb hmm ?_
               intro D2 d2 bl2 w2 hap
               obtain ⟨so2, nd2, mem2, on2⟩ := hap))
          go_roundw
          case rel => exact ⟨done ++ ys, D2, d2, bl2, by rw [List.length_append], so2, nd2, uq.only on2 (fun y hy => (so.in_ good_S y hy).1), .inr (.inr ⟨by rw [← HD.out], rfl⟩)⟩
          case measure => simp [intOf]
        · go_wp2_with fail
          go_ret
          exact ⟨D, d, bl, rfl, so, nd, uq⟩
end Go.Proofs.YtanjmolgpkffoaaGreatDoor
