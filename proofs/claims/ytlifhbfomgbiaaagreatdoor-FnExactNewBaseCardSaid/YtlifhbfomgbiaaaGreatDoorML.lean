/-
  NewDisk: a disk of zero bytes.
  PutTop: the program's and the reference's compute one string.
-/
import Derived.Test.YtlifhbfomgbiaaaGreatDoorMK
import Derived.Test.YtlifhbfomgbiaaaGreatDoorMA
import Derived.Shelf.Spec.SlicesInsert
import Derived.Test.YtlifhbfomgbiaaaGreatDoorMTo
import Derived.Test.YtlifhbfomgbiaaaGreatDoorMD
import Derived.Deep.RegionHeld3
import Derived.Deep.Cut
namespace Go.Proofs.YtlifhbfomgbiaaaGreatDoor
open Go.RowKit
set_option linter.unusedVariables false
set_option linter.unusedSimpArgs false

/-- A row of strings in a block of its own. -/
theorem SO.rowS {w : World} {g lo n : Nat} {t : TypeId} {C : Array Value} {xs : List ByteArray} (h : Bk w g t C) (hlo : lo ≤ g) (hC : n ≤ C.size) (hl : xs.length ≤ n) (hm : n ≤ maxLen) (hx : ∀ j (hj : j < xs.length), C[j]? = some (.string xs[j]) ∧ xs[j].size ≤ maxLen) :
    SO shS w lo w.heap.size (some ⟨g, 0, none⟩) n xs [g] := by
  refine ⟨hl, hm, .inr ⟨g, 0, C, t, List.replicate xs.length [], rfl, hlo, h.lt, h, by simpa [shS] using hC, by simp, by simp, fun i hi => ?_⟩⟩
  refine ⟨[.string xs[i]], [], by simp [hi], rfl, fun j hj => ?_, ⟨⟨rfl, (hx i hi).2⟩, rfl⟩⟩
  obtain rfl : j = 0 := by have : j < 1 := hj; omega
  simpa [shS] using (hx i hi).1

set_option maxRecDepth 100000 in
set_option maxHeartbeats 4000000 in
theorem c_RepeatS (z : ByteArray) (B n : Nat) (w : World) (hB : Bk w B 9 #[.string z]) (hz : z.size ≤ maxLen) (h1 : 1 ≤ n) (h2 : n ≤ 1048576) :
    Calls Tryz.prog 96 #[.slice (some ⟨B, 0, none⟩) 1 1, .int .i64 (n : Int)] w (ToL shS (List.replicate n z) w) := by
  obtain ⟨i0, hi0, hz0, hz1, hz2⟩ := info_parts cinfo_StringS
  have hs1 : (Tryz.prog.info? 9).map (·.size) = some 1 := by rw [hi0]; simp [hz1]
  have hmk := run_make_rows (P := Tryz.prog) 22 9 i0 _ Tryz.underlying22 hi0 hz0 n (by rw [hz2]; omega) (by omega) w
  rw [hz1, Nat.mul_one] at hmk
  simp only [Value.cells] at hmk
  have hmul : ∀ W : World, Calls Tryz.prog 157 #[.int .u64 1, .int .u64 (n : Int)] W fun e w' => e = .returned (.tuple #[.int .u64 0, .int .u64 (n : Int)]) ∧ W = w' := fun W => by
    have h := Go.Proofs.Tryz.bits_Mul 1 n (by omega) (by omega) W
    rw [Nat.one_mul, Nat.div_eq_of_lt (by omega), Nat.mod_eq_of_lt (by omega)] at h
    exact h.mono fun _ _ h => ⟨h.1, h.2.symm⟩
  have hBl := hB.lt
  have kg := Bk.new w 9 (madeCells #[.string ⟨#[]⟩] n)
  have hgs : (madeCells #[.string ⟨#[]⟩] n).size = n := by simp [madeCells]
  have hcp : ∀ ty, (Builtin.copy_ #[22, 22] ty #[.slice (some ⟨w.heap.size, 0, none⟩) n n, .slice (some ⟨B, 0, none⟩) 1 1]).run Tryz.prog (w.alloc (.cells (madeCells #[.string ⟨#[]⟩] n) 9)) = .ok (.int .i64 1) (setCells (w.alloc (.cells (madeCells #[.string ⟨#[]⟩] n) 9)) w.heap.size 0 [.string z]) := fun ty => by
    have h := run_copy_cells (P := Tryz.prog) (w.alloc (.cells (madeCells #[.string ⟨#[]⟩] n) 9)) 22 22 ty 9 w.heap.size 0 n n ⟨B, 0, none⟩ 1 1 [.string z] Tryz.underlying22 hs1 (by simp [Nat.min_def]; omega)
      (fun j v hv => by
        obtain rfl : j = 0 := by have := (List.getElem?_eq_some_iff.1 hv).1; simp at this; exact this
        have e : (⟨B, 0, none⟩ : Addr).add 0 = ⟨B, 0, none⟩ := by simp [Addr.add]
        rw [e, (hB.alloc _).cell]
        simpa using hv)
      (fun j hj => by
        obtain rfl : j = 0 := by simp at hj; exact hj
        rw [kg.cell, Array.getElem?_eq_getElem (by rw [hgs]; omega)]; rfl) (fun j hj => kg.frozen _) (by simp [Value.oneCell'])
    rw [setCells_eq] at h
    exact h
  have kg1 := kg.sets [.string z] 0
  have ug1 : Up w (setCells (w.alloc (.cells (madeCells #[.string ⟨#[]⟩] n) 9)) w.heap.size 0 [.string z]) := ((Up.refl w).alloc _).sets (Nat.le_refl _) 0 _
  have hg1 : (putCells (madeCells #[.string ⟨#[]⟩] n) 0 [.string z]).size = n := by rw [putCells_size, hgs]
  have hg1c : ∀ j, j < 1 → (putCells (madeCells #[.string ⟨#[]⟩] n) 0 [.string z])[j]? = some (.string z) := fun j hj => by
    obtain rfl : j = 0 := by omega
    have := putCells_at [.string z] (madeCells #[.string ⟨#[]⟩] n) 0 0 (by rw [hgs]; simpa using h1) (by simp)
    simpa using this
  obtain ⟨W1, hW1⟩ : ∃ W1, W1 = setCells (w.alloc (.cells (madeCells #[.string ⟨#[]⟩] n) 9)) w.heap.size 0 [.string z] := ⟨_, rfl⟩
  rw [← hW1] at hcp kg1 ug1
  clear hW1
  have hn0 : (0 : Int) < n := by omega
  go_enter Tryz.func96, Tryz.ntmps96
  go_wp2_with (first
    | (go_at_call 157; refine (hmul _).mono ?_; rintro e w' ⟨rfl, rfl⟩)
    | (at_builtin; refine Go.Proofs.wpList_copy_runI _ rfl _ _ _ _ rfl _ _ rfl rfl (hcp _) ?_))
  go_loopw [8] (fun v wr => ∃ (m : Nat) (C : Array Value), v = .int .i64 m ∧ 1 ≤ m ∧ m ≤ n ∧ Bk wr w.heap.size 9 C ∧ C.size = n ∧ (∀ j, j < m → C[j]? = some (.string z)) ∧ Up w wr) (fun v _ => n - (intOf v).toNat)
  case atStart => exact ⟨1, _, rfl, Nat.le_refl _, h1, kg1, hg1, hg1c, ug1⟩
  case round =>
    obtain ⟨m, C, rfl, hm1, hm2, kb, hC, hcc, hu⟩ := hrel
    by_cases hlt : m < n
    · have hrun : ∀ ty, (Builtin.copy_ #[22, 22] ty #[.slice (some ⟨w.heap.size, m, none⟩) (n - m) (n - m), .slice (some ⟨w.heap.size, 0, none⟩) m n]).run Tryz.prog wr.drew = .ok (.int .i64 ((min m (n - m) : Nat) : Int)) (setCells wr.drew w.heap.size m (List.replicate (min m (n - m)) (.string z))) := fun ty => by
        have h := run_copy_cells (P := Tryz.prog) wr.drew 22 22 ty 9 w.heap.size m (n - m) (n - m) ⟨w.heap.size, 0, none⟩ m n (List.replicate (min m (n - m)) (.string z)) Tryz.underlying22 hs1 (by simp)
          (fun j v hv => by
            have hj := (List.getElem?_eq_some_iff.1 hv).1
            simp at hj
            have e : (⟨w.heap.size, 0, none⟩ : Addr).add j = ⟨w.heap.size, 0 + j, none⟩ := by unfold Addr.add; split <;> simp_all
            rw [e, Nat.zero_add, kb.drew.cell, hcc j (by omega)]
            rw [List.getElem?_replicate, if_pos (by omega)] at hv
            exact hv)
          (fun j hj => by
            simp at hj
            rw [kb.drew.cell, Array.getElem?_eq_getElem (by omega)]; rfl) (fun j hj => kb.drew.frozen _) (fun v hv => by rw [List.eq_of_mem_replicate hv]; rfl)
        rw [setCells_eq, List.length_replicate] at h
        exact h
      have kb2 := kb.drew.sets (List.replicate (min m (n - m)) (.string z)) m
      have hu2 := hu.drew.sets (g := w.heap.size) (Nat.le_refl _) m (List.replicate (min m (n - m)) (.string z))
      obtain ⟨W2, hW2⟩ : ∃ W2, W2 = setCells wr.drew w.heap.size m (List.replicate (min m (n - m)) (.string z)) := ⟨_, rfl⟩
      rw [← hW2] at hrun kb2 hu2
      clear hW2
      obtain ⟨q, hq⟩ : ∃ q, q = min m (n - m) := ⟨_, rfl⟩
      have hsub : (n : Int) - (m : Int) = ((n - m : Nat) : Int) := by omega
      rw [← hq] at hrun kb2
      have hC2 : (putCells C m (List.replicate q (.string z))).size = n := by rw [putCells_size, hC]
      have hcc2 : ∀ j, j < m + q → (putCells C m (List.replicate q (.string z)))[j]? = some (.string z) := fun j hj => by
        rcases Nat.lt_or_ge j m with h | h
        · rw [putCells_far _ _ _ _ (.inl h)]; exact hcc j h
        · obtain ⟨t, rfl⟩ : ∃ t, j = m + t := ⟨j - m, by omega⟩
          rw [putCells_at _ _ _ _ (by rw [List.length_replicate, hC]; omega) (by rw [List.length_replicate]; omega), List.getElem?_replicate, if_pos (by omega)]
      have hq1 : 1 ≤ q := by omega
      have hq2 : m + q ≤ n := by omega
      clear hq
      have hwr : IntKind.i64.wrap ((m : Int) + (q : Int)) = ((m + q : Nat) : Int) := by rw [IntWalk.i64_in _ (by omega)]; omega
      have hne : ¬ n = m := by omega
      go_wp2_with fail
      go_region_held3 (fun _ => True) (first | trivial) (first | (refine Go.Proofs.step_copy_runI rfl _ _ _ _ rfl _ _ (by rfl) (by rfl) (hrun _) ?_))
      go_wp2_with fail
      go_roundw
      case rel => exact ⟨m + q, _, by go_num, by omega, hq2, kb2, hC2, hcc2, hu2⟩
      case measure => simp [intOf]; omega
    · obtain rfl : m = n := by omega
      go_wp2_with fail
      go_ret
      have hso := SO.rowS (n := m) (xs := List.replicate m z) kb (Nat.le_refl _) (by omega) (by simp) (by unfold maxLen; omega) (fun j hj => by
        simp at hj
        exact ⟨by rw [hcc j hj]; simp, by simpa using hz⟩)
      refine ⟨some ⟨w.heap.size, 0, none⟩, m, [w.heap.size], ?_, hso, by simp, hu⟩
      rw [List.length_replicate]
      rfl

def newDiskC (a b : Int) : Int := if inB a 1 400 = true ∧ inB b 1 2000 = true then 0 else 2
def newDisk (a b : Int) : TDisk := if newDiskC a b = 0 then (b, List.replicate a.toNat (zs b.toNat), []) else (0, [], [])

set_option maxRecDepth 100000 in
set_option maxHeartbeats 4000000 in
theorem cs0_NewDisk (a b : Int) (w : World) (ha : I64 a) (hb : I64 b) : Calls Tryz.prog 40 #[.int .i64 a, .int .i64 b] w (ToR shDisk (newDisk a b) (newDiskC a b) w) := by
  have ua1 : Up w (w.alloc (.cells #[.int .i64 0, .slice none 0 0, .slice none 0 0] 25)) := (Up.refl _).alloc _
  have uu1 := (Up.refl w).trans ua1
  have kr_1 : Bk (w.alloc (.cells #[.int .i64 0, .slice none 0 0, .slice none 0 0] 25)) (w.heap.size) 25 #[.int .i64 0, .slice none 0 0, .slice none 0 0] := by simpa using Bk.new w 25 #[.int .i64 0, .slice none 0 0, .slice none 0 0]
  have gr1_0 : (w.alloc (.cells #[.int .i64 0, .slice none 0 0, .slice none 0 0] 25)).cell? ⟨w.heap.size, 0, none⟩ = some (.int .i64 0) := kr_1.cell 0
  have fr1_0 := kr_1.frozen 0
  have gr1_1 : (w.alloc (.cells #[.int .i64 0, .slice none 0 0, .slice none 0 0] 25)).cell? ⟨w.heap.size, 1, none⟩ = some (.slice none 0 0) := kr_1.cell 1
  have fr1_1 := kr_1.frozen 1
  have gr1_2 : (w.alloc (.cells #[.int .i64 0, .slice none 0 0, .slice none 0 0] 25)).cell? ⟨w.heap.size, 2, none⟩ = some (.slice none 0 0) := kr_1.cell 2
  have fr1_2 := kr_1.frozen 2
  cases q1 : inB a 1 400
  · have hc : Hid (newDiskC a b = 2) := by unfold Hid; simp [newDiskC, q1]
    have hd : Hid (newDisk a b = (0, [], [])) := by unfold Hid; rw [newDisk, hc.out]; rfl
    go_enter Tryz.func40, Tryz.ntmps40
    go_wp2_with (go_at_call 39; refine (in_any _ _ _ _).mono ?_; rintro e w' ⟨rfl, rfl⟩)
    refine bodyPost_ret (v := .tuple #[.agg #[.int .i64 0, .slice none 0 0, .slice none 0 0], .int .i64 2]) (by simp [results, Tryz.results40, go_sem, gr1_0, gr1_1, gr1_2]) rfl ?_
    exact toR_of hd hc (zeroR _ _ _ uu1)
  cases q2 : inB b 1 2000
  · have hc : Hid (newDiskC a b = 2) := by unfold Hid; simp [newDiskC, q2]
    have hd : Hid (newDisk a b = (0, [], [])) := by unfold Hid; rw [newDisk, hc.out]; rfl
    go_enter Tryz.func40, Tryz.ntmps40
    go_wp2_with (go_at_call 39; refine (in_any _ _ _ _).mono ?_; rintro e w' ⟨rfl, rfl⟩)
    refine bodyPost_ret (v := .tuple #[.agg #[.int .i64 0, .slice none 0 0, .slice none 0 0], .int .i64 2]) (by simp [results, Tryz.results40, go_sem, gr1_0, gr1_1, gr1_2]) rfl ?_
    exact toR_of hd hc (zeroR _ _ _ uu1)
  obtain ⟨q1a, q1b⟩ := inB_t.1 q1
  obtain ⟨q2a, q2b⟩ := inB_t.1 q2
  have hc : Hid (newDiskC a b = 0) := by unfold Hid; simp [newDiskC, q1, q2]
  have hd : Hid (newDisk a b = (b, List.replicate a.toNat (zs b.toNat), [])) := by unfold Hid; rw [newDisk, hc.out]; rfl
  have hzs := zs_size b.toNat
  have hzm : (zs b.toNat).size ≤ maxLen := by rw [hzs]; unfold maxLen; omega
  obtain ⟨m, rfl⟩ : ∃ m : Nat, a = (m : Int) := ⟨a.toNat, by omega⟩
  obtain ⟨n, rfl⟩ : ∃ n : Nat, b = (n : Int) := ⟨b.toNat, by omega⟩
  rw [Int.toNat_natCast] at hzs hzm hd
  rw [Int.toNat_natCast] at hd
  obtain ⟨CZ, hmk, hcv⟩ := run_zs n (by omega)
  generalize zs n = z at *
  obtain ⟨i2, hi2, hy0, hy1, hy2⟩ := info_parts cinfo_StringS
  have ua2 : Up (w.alloc (.cells #[.int .i64 0, .slice none 0 0, .slice none 0 0] 25)) ((w.alloc (.cells #[.int .i64 0, .slice none 0 0, .slice none 0 0] 25)).alloc (.cells #[.int .i64 (n : Int), .slice none 0 0, .slice none 0 0] 25)) := (Up.refl _).alloc _
  have uu2 := uu1.trans ua2
  have kr_2 := kr_1.up ua2
  have ko_2 : Bk ((w.alloc (.cells #[.int .i64 0, .slice none 0 0, .slice none 0 0] 25)).alloc (.cells #[.int .i64 (n : Int), .slice none 0 0, .slice none 0 0] 25)) (w.heap.size + 1) 25 #[.int .i64 (n : Int), .slice none 0 0, .slice none 0 0] := by simpa using Bk.new (w.alloc (.cells #[.int .i64 0, .slice none 0 0, .slice none 0 0] 25)) 25 #[.int .i64 (n : Int), .slice none 0 0, .slice none 0 0]
  have ua3 : Up ((w.alloc (.cells #[.int .i64 0, .slice none 0 0, .slice none 0 0] 25)).alloc (.cells #[.int .i64 (n : Int), .slice none 0 0, .slice none 0 0] 25)) (((w.alloc (.cells #[.int .i64 0, .slice none 0 0, .slice none 0 0] 25)).alloc (.cells #[.int .i64 (n : Int), .slice none 0 0, .slice none 0 0] 25)).alloc (.cells CZ 5)) := (Up.refl _).alloc _
  have uu3 := uu2.trans ua3
  have kr_3 := kr_2.up ua3
  have ko_3 := ko_2.up ua3
  have hcv1 := hcv ((w.alloc (.cells #[.int .i64 0, .slice none 0 0, .slice none 0 0] 25)).alloc (.cells #[.int .i64 (n : Int), .slice none 0 0, .slice none 0 0] 25))
  rw [show ((w.alloc (.cells #[.int .i64 0, .slice none 0 0, .slice none 0 0] 25)).alloc (.cells #[.int .i64 (n : Int), .slice none 0 0, .slice none 0 0] 25)).heap.size = w.heap.size + 1 + 1 by simp] at hcv1
  clear hcv
  go_enter Tryz.func40, Tryz.ntmps40
  go_wp2_with (go_at_call 39; refine (in_any _ _ _ _).mono ?_; rintro e w' ⟨rfl, rfl⟩)
  go_loopw [8] (fun i wr => ∃ (k : Nat) (D : Option Addr) (d : Nat) (bl : List Nat), k ≤ m ∧ i = .int .i64 k ∧ Bk wr (w.heap.size + 1) 25 #[.int .i64 (n : Int), .slice D k d, .slice none 0 0] ∧ Bk wr w.heap.size 25 #[.int .i64 0, .slice none 0 0, .slice none 0 0] ∧ SO shS wr (w.heap.size + 1 + 1) wr.heap.size D d (List.replicate k z) bl ∧ bl.Nodup ∧ w.heap.size + 1 + 1 ≤ wr.heap.size ∧ Up w wr) (fun i _ => m - (intOf i).toNat)
  case atStart => exact ⟨0, none, 0, [], Nat.zero_le _, rfl, ko_3, kr_3, SO.nil _ _ _, by simp, by simp, uu3⟩
  case round =>
    obtain ⟨k, D, d, bl, hk, rfl, kO, kR, so, nd, hsz, hu⟩ := hrel
    have zO := kO.lt
    have gO_0 : wr.cell? ⟨w.heap.size + 1, 0, none⟩ = some (.int .i64 (n : Int)) := kO.cell 0
    have gO_1 : wr.cell? ⟨w.heap.size + 1, 1, none⟩ = some (.slice D k d) := kO.cell 1
    have gO_2 : wr.cell? ⟨w.heap.size + 1, 2, none⟩ = some (.slice none 0 0) := kO.cell 2
    by_cases hlt : k < m
    · have kq := Bk.new wr 9 #[.string z]
      have uq := (Up.refl wr).alloc (.cells #[.string z] 9)
      have ho : shS.own (wr.alloc (.cells #[.string z] 9)) (w.heap.size + 1 + 1) (wr.alloc (.cells #[.string z] 9)).heap.size [.string z] z [] := ⟨⟨rfl, hzm⟩, rfl⟩
      have hOb : w.heap.size + 1 ∉ bl := fun h => by have := (so.in_ good_S _ h).1; omega
      have hRb : w.heap.size ∉ bl := fun h => by have := (so.in_ good_S _ h).1; omega
      have hlk : (List.replicate k z).length = k := List.length_replicate
      have sq := so.up good_S uq
      go_wp2_with (first
        | (at_builtin
           refine wpList_app good_S rfl _ _ _ _ 9 rfl i2 _ Tryz.underlying22 hi2 hy0 hy1 (by rfl) (lo := w.heap.size + 1 + 1) (xs := List.replicate k z) (ys := [z]) (bl := bl) (bs := [[]]) (news := [.string z]) (by rw [hlk]; rfl) rfl sq (by simpa using nd) (Src.box (t := 9) Tryz.underlying22 kq (by simp [Value.oneCell']) (by rw [hy1]; rfl)) (Rowed.one good_S ho) (by simp; omega) (by rw [hy2, hlk]; simp; omega) (by rw [hlk]; unfold maxLen; simp; omega) ?_
           intro D' d' bl' w1 hap
           obtain ⟨so1, nd1, mem1, on1⟩ := hap
           rw [hlk]
           have kO1 := (kO.up uq).only on1 hOb
           have kR1 := (kR.up uq).only on1 hRb
           have g1 : w1.cell? ⟨w.heap.size + 1, 1, none⟩ = some (.slice D k d) := kO1.cell 1
           have f1 := kO1.frozen 1))
      go_roundw
      case rel =>
        have bt := But.set w1 (w.heap.size + 1) 1 (.slice D' (k + 1) d')
        have hmem : ∀ y ∈ bl', w.heap.size + 1 + 1 ≤ y := fun y hy => (so1.in_ good_S y hy).1
        have e : List.replicate k z ++ [z] = List.replicate (k + 1) z := by rw [List.replicate_succ']
        rw [e] at so1
        have hs1 := on1.size
        simp at hs1
        refine ⟨k + 1, D', d', bl', by omega, by go_num, kO1.set 1 _, kR1.but bt (by omega), ?_, nd1, by rw [bt.size]; omega, (((hu.trans uq).only on1 (fun y hy => by have := (so.in_ good_S y hy).1; omega)).but bt (by omega))⟩
        rw [bt.size]
        exact so1.keep good_S (fun y hy => bt.block y (fun e => by have := hmem y hy; omega))
      case measure => simp [intOf]; omega
    · obtain rfl : k = m := by omega
      have gr_0 : wr.cell? ⟨w.heap.size, 0, none⟩ = some (.int .i64 0) := kR.cell 0
      have gr_1 : wr.cell? ⟨w.heap.size, 1, none⟩ = some (.slice none 0 0) := kR.cell 1
      have gr_2 : wr.cell? ⟨w.heap.size, 2, none⟩ = some (.slice none 0 0) := kR.cell 2
      have fr_0 := kR.frozen 0
      have fr_1 := kR.frozen 1
      have fr_2 := kR.frozen 2
      go_wp2_with fail
      refine bodyPost_ret (v := .tuple #[.agg #[.int .i64 (n : Int), .slice D k d, .slice none 0 0], .int .i64 0]) (by simp [results, Tryz.results40, go_sem, gr_0, gr_1, gr_2]) rfl ?_
      have z1 := (so.set good_S w.heap.size 0 [.int .i64 (n : Int), .slice D k d, .slice none 0 0] (by omega)).wide good_S (lo' := w.heap.size) (by omega) (Nat.le_refl _)
      have asm := asmDisk (x0 := (n : Int)) (x2 := []) hb z1 (SO.nil _ _ _)
      rw [List.length_replicate] at asm
      exact toR_of hd hc ⟨[.int .i64 (n : Int), .slice D k d, .slice none 0 0], _, rfl, asm, by simpa using nd, hu.sets (g := w.heap.size) (by omega) 0 [.int .i64 (n : Int), .slice D k d, .slice none 0 0]⟩

set_option maxRecDepth 100000 in
set_option maxHeartbeats 4000000 in
theorem ci_NewDisk (a b : Int) (w : World) (ha : I64 a) (hb : I64 b) : Calls Tryz.prog 44 #[.int .i64 a, .int .i64 b] w (ToR shDisk (newDisk a b) (newDiskC a b) w) := by
  have ua1 : Up w (w.alloc (.cells #[.int .i64 0, .slice none 0 0, .slice none 0 0] 25)) := (Up.refl _).alloc _
  have uu1 := (Up.refl w).trans ua1
  have kr_1 : Bk (w.alloc (.cells #[.int .i64 0, .slice none 0 0, .slice none 0 0] 25)) (w.heap.size) 25 #[.int .i64 0, .slice none 0 0, .slice none 0 0] := by simpa using Bk.new w 25 #[.int .i64 0, .slice none 0 0, .slice none 0 0]
  have gr1_0 : (w.alloc (.cells #[.int .i64 0, .slice none 0 0, .slice none 0 0] 25)).cell? ⟨w.heap.size, 0, none⟩ = some (.int .i64 0) := kr_1.cell 0
  have fr1_0 := kr_1.frozen 0
  have gr1_1 : (w.alloc (.cells #[.int .i64 0, .slice none 0 0, .slice none 0 0] 25)).cell? ⟨w.heap.size, 1, none⟩ = some (.slice none 0 0) := kr_1.cell 1
  have fr1_1 := kr_1.frozen 1
  have gr1_2 : (w.alloc (.cells #[.int .i64 0, .slice none 0 0, .slice none 0 0] 25)).cell? ⟨w.heap.size, 2, none⟩ = some (.slice none 0 0) := kr_1.cell 2
  have fr1_2 := kr_1.frozen 2
  cases q1 : inB a 1 400
  · have hc : Hid (newDiskC a b = 2) := by unfold Hid; simp [newDiskC, q1]
    have hd : Hid (newDisk a b = (0, [], [])) := by unfold Hid; rw [newDisk, hc.out]; rfl
    go_enter Tryz.func44, Tryz.ntmps44
    go_wp2_with (go_at_call 43; refine (within_any _ _ _ _).mono ?_; rintro e w' ⟨rfl, rfl⟩)
    refine bodyPost_ret (v := .tuple #[.agg #[.int .i64 0, .slice none 0 0, .slice none 0 0], .int .i64 2]) (by simp [results, Tryz.results44, go_sem, gr1_0, gr1_1, gr1_2]) rfl ?_
    exact toR_of hd hc (zeroR _ _ _ uu1)
  cases q2 : inB b 1 2000
  · have hc : Hid (newDiskC a b = 2) := by unfold Hid; simp [newDiskC, q2]
    have hd : Hid (newDisk a b = (0, [], [])) := by unfold Hid; rw [newDisk, hc.out]; rfl
    go_enter Tryz.func44, Tryz.ntmps44
    go_wp2_with (go_at_call 43; refine (within_any _ _ _ _).mono ?_; rintro e w' ⟨rfl, rfl⟩)
    refine bodyPost_ret (v := .tuple #[.agg #[.int .i64 0, .slice none 0 0, .slice none 0 0], .int .i64 2]) (by simp [results, Tryz.results44, go_sem, gr1_0, gr1_1, gr1_2]) rfl ?_
    exact toR_of hd hc (zeroR _ _ _ uu1)
  obtain ⟨q1a, q1b⟩ := inB_t.1 q1
  obtain ⟨q2a, q2b⟩ := inB_t.1 q2
  have hc : Hid (newDiskC a b = 0) := by unfold Hid; simp [newDiskC, q1, q2]
  have hd : Hid (newDisk a b = (b, List.replicate a.toNat (zs b.toNat), [])) := by unfold Hid; rw [newDisk, hc.out]; rfl
  have hzs := zs_size b.toNat
  have hzm : (zs b.toNat).size ≤ maxLen := by rw [hzs]; unfold maxLen; omega
  obtain ⟨m, rfl⟩ : ∃ m : Nat, a = (m : Int) := ⟨a.toNat, by omega⟩
  go_enter Tryz.func44, Tryz.ntmps44
  go_wp2_with (go_at_call 43; refine (within_any _ _ _ _).mono ?_; rintro e w' ⟨rfl, rfl⟩)
  refine (c_zeros b _ (by omega) (by omega)).mono ?_
  rintro e w2 ⟨rfl, u2⟩
  have uu2 := uu1.trans u2
  have kr_2 := kr_1.up u2
  have zr_2 := kr_2.lt
  clear gr1_0 fr1_0 gr1_1 fr1_1 gr1_2 fr1_2
  have gr2_0 : w2.cell? ⟨w.heap.size, 0, none⟩ = some (.int .i64 0) := kr_2.cell 0
  have fr2_0 := kr_2.frozen 0
  have gr2_1 : w2.cell? ⟨w.heap.size, 1, none⟩ = some (.slice none 0 0) := kr_2.cell 1
  have fr2_1 := kr_2.frozen 1
  have gr2_2 : w2.cell? ⟨w.heap.size, 2, none⟩ = some (.slice none 0 0) := kr_2.cell 2
  have fr2_2 := kr_2.frozen 2
  have ua3 : Up w2 (w2.alloc (.cells #[.string (zs b.toNat)] 9)) := (Up.refl _).alloc _
  have uu3 := uu2.trans ua3
  have kr_3 := kr_2.up ua3
  have kz_3 : Bk (w2.alloc (.cells #[.string (zs b.toNat)] 9)) (w2.heap.size) 9 #[.string (zs b.toNat)] := by simpa using Bk.new w2 9 #[.string (zs b.toNat)]
  have zz : w.heap.size < w2.heap.size := zr_2
  generalize hZ : zs b.toNat = z at *
  go_wp2_with fail
  refine (c_RepeatS z _ m _ (by simpa using kz_3) hzm (by omega) (by omega)).mono ?_
  rintro e w4 ⟨D, d, bl, rfl, o1, nd1, u4⟩
  have uu4 := uu3.trans u4
  have kr_4 := kr_3.up u4
  have zr_4 := kr_4.lt
  have kz_4 := kz_3.up u4
  have zz_4 := kz_4.lt
  rw [List.length_replicate]
  clear gr2_0 fr2_0 gr2_1 fr2_1 gr2_2 fr2_2
  have gr4_0 : w4.cell? ⟨w.heap.size, 0, none⟩ = some (.int .i64 0) := kr_4.cell 0
  have fr4_0 := kr_4.frozen 0
  have gr4_1 : w4.cell? ⟨w.heap.size, 1, none⟩ = some (.slice none 0 0) := kr_4.cell 1
  have fr4_1 := kr_4.frozen 1
  have gr4_2 : w4.cell? ⟨w.heap.size, 2, none⟩ = some (.slice none 0 0) := kr_4.cell 2
  have fr4_2 := kr_4.frozen 2
  have o1w := o1.wide good_S (lo' := w.heap.size + 1) (by simp; omega) (Nat.le_refl _)
  rw [Int.toNat_natCast] at hd
  go_wp2_with fail
  refine bodyPost_ret (v := .tuple #[.agg #[.int .i64 b, .slice D m d, .slice none 0 0], .int .i64 0]) (by simp [results, Tryz.results44, go_sem, gr4_0, gr4_1, gr4_2]) rfl ?_
  have z1 := (o1w.set good_S w.heap.size 0 [.int .i64 b, .slice D m d, .slice none 0 0] (by omega)).wide good_S (lo' := w.heap.size) (by omega) (Nat.le_refl _)
  have asm := asmDisk (x0 := b) (x2 := []) hb z1 (SO.nil _ _ _)
  rw [List.length_replicate] at asm
  exact toR_of hd hc ⟨[.int .i64 b, .slice D m d, .slice none 0 0], _, rfl, asm, by simpa using nd1, uu4.sets (g := w.heap.size) (by omega) 0 [.int .i64 b, .slice D m d, .slice none 0 0]⟩

theorem cs_NewDisk (a b : Int) (w : World) (ha : I64 a) (hb : I64 b) : Calls Tryz.prog 40 #[.int .i64 a, .int .i64 b] w (RpR shDisk (newDisk a b) (newDiskC a b) w) := (cs0_NewDisk a b w ha hb).mono fun _ _ h => h.rp good_Disk
theorem newDisk_len (a b : Int) : (newDisk a b).2.1.length ≤ 400 ∧ (newDisk a b).2.2 = [] := by
  unfold newDisk newDiskC
  by_cases h : inB a 1 400 = true ∧ inB b 1 2000 = true
  · rw [if_pos h, if_pos rfl]
    have := inB_t.1 h.1
    simp
    omega
  · rw [if_neg h, if_neg (by decide)]
    simp
theorem cbg_NewDisk (a b : Int) : (1 : Int) + (mmTDisk.cnt (newDisk a b) : Nat) ≤ 1000000000 := by
  have h := newDisk_len a b
  rw [cntDisk_eq, h.2]
  simp
  omega
end Go.Proofs.YtlifhbfomgbiaaaGreatDoor

namespace Go.Proofs.YtlifhbfomgbiaaaGreatDoor
open Go.RowKit
set_option linter.unusedVariables false
set_option linter.unusedSimpArgs false

def bodyTo (t : TTop) (k : Nat) : ByteArray := (t.2.2.2.take k).foldl (fun b s => b ++ leS s.1.toNat 1 ++ leS s.2.toNat 2) (leS t.2.1.toNat 1 ++ leS t.2.2.1.toNat 4 ++ leS (t.2.2.2.length : Int).toNat 1)
def putTop (t : TTop) : ByteArray := if topOk t = true then stamped (leS t.1.toNat 4) (bodyTo t t.2.2.2.length) 1700 else ⟨#[]⟩
theorem bodyTo_succ (t : TTop) (k : Nat) (h : k < t.2.2.2.length) : bodyTo t (k + 1) = bodyTo t k ++ leS t.2.2.2[k].1.toNat 1 ++ leS t.2.2.2[k].2.toNat 2 := by
  unfold bodyTo
  rw [List.take_succ_eq_append_getElem h, List.foldl_append]
  rfl
theorem seats_in {l : List TSeat} (h : seatsOk l = true) : l.length ≤ 64 ∧ ∀ i (hi : i < l.length), 1 ≤ l[i].1 ∧ l[i].1 ≤ 64 ∧ 2 ≤ l[i].2 ∧ l[i].2 ≤ 399 := by
  simp only [seatsOk, Bool.and_eq_true, decide_eq_true_eq, okTo, List.all_eq_true] at h
  refine ⟨h.1, fun i hi => ?_⟩
  have := h.2 i (by simpa using hi)
  simp only [okAt, Bool.and_eq_true, seatD_at l i hi, inB_t] at this
  omega
theorem fixOf {f : FuncId} (h : ∀ (n k : Nat) (w : World), n ≤ 9223372036854775807 → 1 ≤ k → k ≤ 16 → Calls Tryz.prog f #[.int .i64 (n : Int), .int .i64 (k : Int)] w (RetV (.string (leS n k)) w)) (n : Int) (k : Nat) (h0 : 0 ≤ n) (h1 : n ≤ 9223372036854775807) (hk1 : 1 ≤ k) (hk : k ≤ 16) :
    ∃ s : ByteArray, Hid (s = leS n.toNat k) ∧ s.size = k ∧ ∀ w : World, Calls Tryz.prog f #[.int .i64 n, .int .i64 (k : Int)] w (RetV (.string s) w) := by
  obtain ⟨m, rfl⟩ := Int.eq_ofNat_of_zero_le h0
  exact ⟨leS m k, by unfold Hid; rfl, leS_size _ _, fun w => h m k w (by omega) hk1 hk⟩
theorem c_countSeat (xs : List TSeat) (A : Option Addr) (c : Nat) (w : World) (h : xs.length ≤ 9223372036854775807) : Calls Tryz.prog 101 #[.slice A xs.length c] w fun e w' => e = .returned (.int .i64 xs.length) ∧ w = w' := by
  go_enter Tryz.func101, Tryz.ntmps101
  go_wp2
  go_ret
  exact ⟨rfl, rfl⟩

set_option maxRecDepth 100000 in
set_option maxHeartbeats 8000000 in
theorem cs_PutTop (v : Value) (x : TTop) (w : World) (h : AV shTop w v x) (hn : shTop.sz x ≤ 1048576) : Calls Tryz.prog 41 #[v] w (RetV (.string (putTop x)) w) := by
  have hv := h
  obtain ⟨cs, rfl, h⟩ := h
  obtain ⟨A3, c3, rfl, b0, b1, b2, b3⟩ := openTop h
  clear h
  have hl3 := b3.len_le
  have ua : Up w (w.alloc (.cells #[.int .i64 x.1, .int .i64 x.2.1, .int .i64 x.2.2.1, .slice A3 x.2.2.2.length c3] 28)) := (Up.refl _).alloc _
  have k0 : Bk (w.alloc (.cells #[.int .i64 x.1, .int .i64 x.2.1, .int .i64 x.2.2.1, .slice A3 x.2.2.2.length c3] 28)) w.heap.size 28 #[.int .i64 x.1, .int .i64 x.2.1, .int .i64 x.2.2.1, .slice A3 x.2.2.2.length c3] := Bk.new _ _ _
  go_enter Tryz.func41, Tryz.ntmps41
  go_wp2_with fail
  refine (c_specTopOk _ x _ (hv.up good_Top ua)).mono ?_
  rintro e w1 ⟨rfl, u1⟩
  have uu1 := ua.trans u1
  have k1 := k0.up u1
  cases hok : topOk x
  · have HN : Hid (putTop x = ⟨#[]⟩) := by unfold Hid; simp [putTop, hok]
    go_wp2_with fail
    go_ret
    exact ret_str HN uu1
  have HN : Hid (putTop x = stamped (leS x.1.toNat 4) (bodyTo x x.2.2.2.length) 1700) := by unfold Hid; simp [putTop, hok]
  have hso : seatsOk x.2.2.2 = true := by simp only [topOk, Bool.and_eq_true] at hok; exact hok.2
  have hb : (1 ≤ x.1 ∧ x.1 ≤ 2000000000) ∧ (1 ≤ x.2.1 ∧ x.2.1 ≤ 64) ∧ (0 ≤ x.2.2.1 ∧ x.2.2.1 ≤ 2000000000) := by simp only [topOk, Bool.and_eq_true, inB_t] at hok; exact ⟨hok.1.1.1, hok.1.1.2, hok.1.2⟩
  obtain ⟨⟨p0, p0'⟩, ⟨p1, p1'⟩, ⟨p2, p2'⟩⟩ := hb
  obtain ⟨hl64, hin⟩ := seats_in hso
  clear hok hso
  obtain ⟨s0, S0, z0, f0⟩ := fixOf c_l18Fix x.1 4 (by omega) (by omega) (by omega) (by omega)
  replace f0 : ∀ W : World, Calls Tryz.prog 92 #[.int .i64 (x.1), .int .i64 4] W (RetV (.string s0) W) := f0
  obtain ⟨s1, S1, z1, f1⟩ := fixOf c_l18Fix x.2.1 1 (by omega) (by omega) (by omega) (by omega)
  replace f1 : ∀ W : World, Calls Tryz.prog 92 #[.int .i64 (x.2.1), .int .i64 1] W (RetV (.string s1) W) := f1
  obtain ⟨s2, S2, z2, f2⟩ := fixOf c_l18Fix x.2.2.1 4 (by omega) (by omega) (by omega) (by omega)
  replace f2 : ∀ W : World, Calls Tryz.prog 92 #[.int .i64 (x.2.2.1), .int .i64 4] W (RetV (.string s2) W) := f2
  obtain ⟨s3, S3, z3, f3⟩ := fixOf c_l18Fix (x.2.2.2.length : Int) 1 (by omega) (by omega) (by omega) (by omega)
  replace f3 : ∀ W : World, Calls Tryz.prog 92 #[.int .i64 (x.2.2.2.length : Int), .int .i64 1] W (RetV (.string s3) W) := f3
  have HB0 : Hid (s1 ++ s2 ++ s3 = bodyTo x 0) := by unfold Hid bodyTo; rw [S1.out, S2.out, S3.out]; rfl
  have g1_0 : w1.cell? ⟨w.heap.size, 0, none⟩ = some (.int .i64 x.1) := k1.cell 0
  have g1_1 : w1.cell? ⟨w.heap.size, 1, none⟩ = some (.int .i64 x.2.1) := k1.cell 1
  have g1_2 : w1.cell? ⟨w.heap.size, 2, none⟩ = some (.int .i64 x.2.2.1) := k1.cell 2
  have g1_3 : w1.cell? ⟨w.heap.size, 3, none⟩ = some (.slice A3 x.2.2.2.length c3) := k1.cell 3
  have zk := k1.lt
  have t1 := fun t : UpT w1 => cell_up t g1_1
  have t2 := fun t : UpT w1 => cell_up t g1_2
  have t3 := fun t : UpT w1 => cell_up t g1_3
  go_wp2_with fail
  refine wp_region_up (by kernel_rfl) (by kernel_rfl) ?_
  repeat (go_big_quiet_step ((go_at_call 92; first | with_reducible exact up_call (f1 _) (UpT.up _) | with_reducible exact up_call (f2 _) (UpT.up _) | with_reducible exact up_call (f3 _) (UpT.up _))))
  refine wpQuiet_nil ?_
  rintro _ ⟨⟨w2, u2⟩, rfl⟩
  clear t1 t2 t3 g1_0 g1_1 g1_2 g1_3
  have k2 := k1.up u2
  have uu2 := uu1.trans u2
  have zb0 : (s1 ++ s2 ++ s3).size = 6 + 3 * 0 := by rw [ByteArray.size_append, ByteArray.size_append, z1, z2, z3]
  obtain ⟨q0, hq0⟩ : ∃ q, q = s1 ++ s2 ++ s3 := ⟨_, rfl⟩
  have HQ0 := Lib.hid hq0; clear hq0
  go_wp2_with fail
  go_loopw [3, 4] (fun v i wr => ∃ (k : Nat) (bb : ByteArray), k ≤ x.2.2.2.length ∧ i = .int .i64 k ∧ v = .string bb ∧ Hid (bb = bodyTo x k) ∧ bb.size = 6 + 3 * k ∧ Up w wr ∧ Bk wr w.heap.size 28 #[.int .i64 x.1, .int .i64 x.2.1, .int .i64 x.2.2.1, .slice A3 x.2.2.2.length c3]) (fun _ i _ => x.2.2.2.length - (intOf i).toNat)
  case atStart => exact ⟨0, s1 ++ s2 ++ s3, Nat.zero_le _, rfl, rfl, HB0, zb0, uu2, k2⟩
  case round =>
    obtain ⟨k, bb, hk, rfl, rfl, HB, zb, hu, kA⟩ := hrel
    have gA_0 : wr.cell? ⟨w.heap.size, 0, none⟩ = some (.int .i64 x.1) := kA.cell 0
    have gA_3 : wr.cell? ⟨w.heap.size, 3, none⟩ = some (.slice A3 x.2.2.2.length c3) := kA.cell 3
    by_cases hlt : k < x.2.2.2.length
    · obtain ⟨g, off, rfl, _, hgl, hc0, hc1, e0, e1, _⟩ := atSeat (b3.up good_Seat hu) hlt
      obtain ⟨i1, i2, i3, i4⟩ := hin k hlt
      obtain ⟨r1, R1, y1, h1⟩ := fixOf c_l18Fix x.2.2.2[k].1 1 (by omega) (by omega) (by omega) (by omega)
      replace h1 : ∀ W : World, Calls Tryz.prog 92 #[.int .i64 (x.2.2.2[k].1), .int .i64 1] W (RetV (.string r1) W) := h1
      obtain ⟨r2, R2, y2, h2⟩ := fixOf c_l18Fix x.2.2.2[k].2 2 (by omega) (by omega) (by omega) (by omega)
      replace h2 : ∀ W : World, Calls Tryz.prog 92 #[.int .i64 (x.2.2.2[k].2), .int .i64 2] W (RetV (.string r2) W) := h2
      have HS : Hid (bb ++ r1 ++ r2 = bodyTo x (k + 1)) := by unfold Hid; rw [bodyTo_succ x k hlt, HB.out, R1.out, R2.out]
      have ZS : Hid ((bb ++ r1 ++ r2).size = 6 + 3 * (k + 1)) := by unfold Hid; rw [ByteArray.size_append, ByteArray.size_append, zb, y1, y2]; omega
      have t3 := fun t : UpT wr => cell_up t gA_3
      have t4 := fun t : UpT wr => cell_up t hc0
      have t5 := fun t : UpT wr => cell_up t hc1
      go_wp2_with fail
      refine wp_region_up (by kernel_rfl) (by kernel_rfl) ?_
      repeat (go_big_quiet_step ((go_at_call 92; first | with_reducible exact up_call (h1 _) (UpT.up _) | with_reducible exact up_call (h2 _) (UpT.up _))))
      refine wpQuiet_nil ?_
      rintro _ ⟨⟨w3, u3⟩, rfl⟩
      go_wp2_with fail
      go_roundw
      case rel => exact ⟨k + 1, bb ++ r1 ++ r2, by omega, by go_num, rfl, HS, ZS.out, hu.trans u3, kA.up u3⟩
      case measure => simp [intOf]; omega
    · obtain rfl : k = x.2.2.2.length := by omega
      go_wp2_with fail
      refine (f0 _).mono ?_
      rintro e w3 ⟨rfl, u3⟩
      go_wp2_with fail
      refine (cs_Stamped s0 bb 1700 _ (by unfold maxLen; omega) (by omega) (by unfold maxLen; omega) (by omega) ⟨by decide, by decide⟩).mono ?_
      rintro e w4 ⟨rfl, u4⟩
      have HM : Hid (putTop x = stamped s0 bb 1700) := by unfold Hid; rw [HN.out, S0.out, HB.out]
      go_wp2_with fail
      go_ret
      exact ret_str HM ((hu.trans u3).trans u4)

set_option maxRecDepth 100000 in
set_option maxHeartbeats 8000000 in
theorem ci_PutTop (v : Value) (x : TTop) (w : World) (h : AV shTop w v x) (hn : shTop.sz x ≤ 1048576) : Calls Tryz.prog 45 #[v] w (RetV (.string (putTop x)) w) := by
  have hv := h
  obtain ⟨cs, rfl, h⟩ := h
  obtain ⟨A3, c3, rfl, b0, b1, b2, b3⟩ := openTop h
  clear h
  have hl3 := b3.len_le
  have ua : Up w (w.alloc (.cells #[.int .i64 x.1, .int .i64 x.2.1, .int .i64 x.2.2.1, .slice A3 x.2.2.2.length c3] 28)) := (Up.refl _).alloc _
  have k0 : Bk (w.alloc (.cells #[.int .i64 x.1, .int .i64 x.2.1, .int .i64 x.2.2.1, .slice A3 x.2.2.2.length c3] 28)) w.heap.size 28 #[.int .i64 x.1, .int .i64 x.2.1, .int .i64 x.2.2.1, .slice A3 x.2.2.2.length c3] := Bk.new _ _ _
  go_enter Tryz.func45, Tryz.ntmps45
  go_wp2_with fail
  refine (c_implTopOk _ x _ (hv.up good_Top ua)).mono ?_
  rintro e w1 ⟨rfl, u1⟩
  have uu1 := ua.trans u1
  have k1 := k0.up u1
  cases hok : topOk x
  · have HN : Hid (putTop x = ⟨#[]⟩) := by unfold Hid; simp [putTop, hok]
    go_wp2_with fail
    go_ret
    exact ret_str HN uu1
  have HN : Hid (putTop x = stamped (leS x.1.toNat 4) (bodyTo x x.2.2.2.length) 1700) := by unfold Hid; simp [putTop, hok]
  have hso : seatsOk x.2.2.2 = true := by simp only [topOk, Bool.and_eq_true] at hok; exact hok.2
  have hb : (1 ≤ x.1 ∧ x.1 ≤ 2000000000) ∧ (1 ≤ x.2.1 ∧ x.2.1 ≤ 64) ∧ (0 ≤ x.2.2.1 ∧ x.2.2.1 ≤ 2000000000) := by simp only [topOk, Bool.and_eq_true, inB_t] at hok; exact ⟨hok.1.1.1, hok.1.1.2, hok.1.2⟩
  obtain ⟨⟨p0, p0'⟩, ⟨p1, p1'⟩, ⟨p2, p2'⟩⟩ := hb
  obtain ⟨hl64, hin⟩ := seats_in hso
  clear hok hso
  obtain ⟨s0, S0, z0, f0⟩ := fixOf c_little x.1 4 (by omega) (by omega) (by omega) (by omega)
  replace f0 : ∀ W : World, Calls Tryz.prog 100 #[.int .i64 (x.1), .int .i64 4] W (RetV (.string s0) W) := f0
  obtain ⟨s1, S1, z1, f1⟩ := fixOf c_little x.2.1 1 (by omega) (by omega) (by omega) (by omega)
  replace f1 : ∀ W : World, Calls Tryz.prog 100 #[.int .i64 (x.2.1), .int .i64 1] W (RetV (.string s1) W) := f1
  obtain ⟨s2, S2, z2, f2⟩ := fixOf c_little x.2.2.1 4 (by omega) (by omega) (by omega) (by omega)
  replace f2 : ∀ W : World, Calls Tryz.prog 100 #[.int .i64 (x.2.2.1), .int .i64 4] W (RetV (.string s2) W) := f2
  obtain ⟨s3, S3, z3, f3⟩ := fixOf c_little (x.2.2.2.length : Int) 1 (by omega) (by omega) (by omega) (by omega)
  replace f3 : ∀ W : World, Calls Tryz.prog 100 #[.int .i64 (x.2.2.2.length : Int), .int .i64 1] W (RetV (.string s3) W) := f3
  have HB0 : Hid (s1 ++ s2 ++ s3 = bodyTo x 0) := by unfold Hid bodyTo; rw [S1.out, S2.out, S3.out]; rfl
  have g1_0 : w1.cell? ⟨w.heap.size, 0, none⟩ = some (.int .i64 x.1) := k1.cell 0
  have g1_1 : w1.cell? ⟨w.heap.size, 1, none⟩ = some (.int .i64 x.2.1) := k1.cell 1
  have g1_2 : w1.cell? ⟨w.heap.size, 2, none⟩ = some (.int .i64 x.2.2.1) := k1.cell 2
  have g1_3 : w1.cell? ⟨w.heap.size, 3, none⟩ = some (.slice A3 x.2.2.2.length c3) := k1.cell 3
  have zk := k1.lt
  have kb : Bk (w1.alloc (.cells #[.pointer none, .slice none 0 0] 152)) w1.heap.size 152 #[.pointer none, .slice none 0 0] := Bk.new _ _ _
  have uB : Up w1 (w1.alloc (.cells #[.pointer none, .slice none 0 0] 152)) := (Up.refl _).alloc _
  have zb0 : (s1 ++ s2 ++ s3).size = 6 + 3 * 0 := by rw [ByteArray.size_append, ByteArray.size_append, z1, z2, z3]
  have zz12 : (s1 ++ s2).size = 5 := by rw [ByteArray.size_append, z1, z2]
  have zl0 : (s1 ++ s2 ++ s3).data.toList.length = 6 := zb0
  go_wp2_with fail
  go_cut [] from 6 (fun wr => Up w wr ∧ Bk wr w.heap.size 28 #[.int .i64 x.1, .int .i64 x.2.1, .int .i64 x.2.2.1, .slice A3 x.2.2.2.length c3] ∧ Bld8 w1.heap.size w1.heap.size (s1 ++ s2 ++ s3).data.toList wr ∧ w1.heap.size ≤ wr.heap.size)
  case first =>
    have kA := (k1.up uB).drew
    have uA := (uu1.trans uB).drew
    have bA : Bld8 w1.heap.size w1.heap.size [] (w1.alloc (.cells #[.pointer none, .slice none 0 0] 152)).drew := bld_new _ _ kb
    have zA : w1.heap.size ≤ (w1.alloc (.cells #[.pointer none, .slice none 0 0] 152)).drew.heap.size := uB.size
    go_region_held3 (fun W => W.cell? ⟨w.heap.size, 1, none⟩ = some (.int .i64 x.2.1) ∧ W.cell? ⟨w.heap.size, 2, none⟩ = some (.int .i64 x.2.2.1) ∧ W.cell? ⟨w.heap.size, 3, none⟩ = some (.slice A3 x.2.2.2.length c3))
      (first | exact ⟨kA.cell 1, kA.cell 2, kA.cell 3⟩)
      (first
        | (go_at_call 100; (first | with_reducible refine (f1 _).mono ?_ | with_reducible refine (f2 _).mono ?_ | with_reducible refine (f3 _).mono ?_); rintro e w' ⟨rfl, u'⟩; replace kA := kA.up u'; replace uA := uA.trans u'; replace bA := bld_up bA u'; replace zA := Nat.le_trans zA u'.size)
        | (go_at_call 101; refine (c_countSeat x.2.2.2 A3 c3 _ hl3).mono ?_; rintro e w' ⟨rfl, rfl⟩)
        | (go_at_call 99; refine (c_WriteString _ _ [] (s1 ++ s2 ++ s3) _ bA (by rw [zb0]; simp) zA).mono ?_; rintro e w' ⟨rfl, bN, kN, oN⟩; replace kA := kA.below kN zk; replace uA := uA.below kN (by omega); replace zA := Nat.le_trans zA kN.size; simp only [List.nil_append] at bN))
    all_goals
      go_wp2_with fail
      go_meet
      case rel => exact ⟨uA, kA, bN, zA⟩
  case rest =>
    obtain ⟨uu2, k2, b2', zz2⟩ := hcut
    clear g1_0 g1_1 g1_2 g1_3
    have g2_3 : wc.cell? ⟨w.heap.size, 3, none⟩ = some (.slice A3 x.2.2.2.length c3) := k2.cell 3
    go_wp2_with fail
    clear g2_3
    go_loopw [25] (fun i wr => ∃ (k : Nat) (bb : ByteArray), k ≤ x.2.2.2.length ∧ i = .int .i64 k ∧ Hid (bb = bodyTo x k) ∧ bb.size = 6 + 3 * k ∧ Up w wr ∧ Bk wr w.heap.size 28 #[.int .i64 x.1, .int .i64 x.2.1, .int .i64 x.2.2.1, .slice A3 x.2.2.2.length c3] ∧ Bld8 w1.heap.size w1.heap.size bb.data.toList wr ∧ w1.heap.size ≤ wr.heap.size) (fun i _ => x.2.2.2.length - (intOf i).toNat)
    case atStart => exact ⟨0, s1 ++ s2 ++ s3, Nat.zero_le _, rfl, HB0, zb0, uu2, k2, b2', zz2⟩
    case round =>
      obtain ⟨k, bb, hk, rfl, HB, zb, hu, kA, bA, zA⟩ := hrel
      have gA_0 : wr.cell? ⟨w.heap.size, 0, none⟩ = some (.int .i64 x.1) := kA.cell 0
      by_cases hlt : k < x.2.2.2.length
      · obtain ⟨g, off, rfl, _, hgl, hc0, hc1, e0, e1, _⟩ := atSeat (b3.up good_Seat hu) hlt
        obtain ⟨i1, i2, i3, i4⟩ := hin k hlt
        obtain ⟨r1, R1, y1, h1⟩ := fixOf c_little x.2.2.2[k].1 1 (by omega) (by omega) (by omega) (by omega)
        replace h1 : ∀ W : World, Calls Tryz.prog 100 #[.int .i64 (x.2.2.2[k].1), .int .i64 1] W (RetV (.string r1) W) := h1
        obtain ⟨r2, R2, y2, h2⟩ := fixOf c_little x.2.2.2[k].2 2 (by omega) (by omega) (by omega) (by omega)
        replace h2 : ∀ W : World, Calls Tryz.prog 100 #[.int .i64 (x.2.2.2[k].2), .int .i64 2] W (RetV (.string r2) W) := h2
        have HS : Hid (bb ++ (r1 ++ r2) = bodyTo x (k + 1)) := by unfold Hid; rw [bodyTo_succ x k hlt, HB.out, R1.out, R2.out, ByteArray.append_assoc]
        have ZS : Hid ((bb ++ (r1 ++ r2)).size = 6 + 3 * (k + 1)) := by unfold Hid; rw [ByteArray.size_append, ByteArray.size_append, zb, y1, y2]; omega
        have y12 : (r1 ++ r2).size = 3 := by rw [ByteArray.size_append, y1, y2]
        have ybl : bb.data.toList.length = 6 + 3 * k := zb
        have HL : Hid (bb.data.toList ++ (r1 ++ r2).data.toList = (bb ++ (r1 ++ r2)).data.toList) := by unfold Hid; simp
        have uS : Up wr (wr.alloc (.cells #[.int .i64 x.2.2.2[k].1, .int .i64 x.2.2.2[k].2] 87)) := (Up.refl _).alloc _
        have zlb := bld_lt bA
        have kS := Bk.new wr 87 #[.int .i64 x.2.2.2[k].1, .int .i64 x.2.2.2[k].2]
        go_wp2_with fail
        replace kA := (kA.up uS).drew
        have uA := (hu.trans uS).drew
        replace bA := bld_up bA uS
        replace zA := Nat.le_trans zA uS.size
        replace kS := kS.drew
        have bA' : Bld8 w1.heap.size w1.heap.size bb.data.toList (wr.alloc (.cells #[.int .i64 x.2.2.2[k].1, .int .i64 x.2.2.2[k].2] 87)).drew := bld_up bA (Up.refl _).drew
        have cS : (wr.alloc (.cells #[.int .i64 x.2.2.2[k].1, .int .i64 x.2.2.2[k].2] 87)).drew.cell? ⟨wr.heap.size, 0, none⟩ = some (.int .i64 x.2.2.2[k].1) ∧ (wr.alloc (.cells #[.int .i64 x.2.2.2[k].1, .int .i64 x.2.2.2[k].2] 87)).drew.cell? ⟨wr.heap.size, 1, none⟩ = some (.int .i64 x.2.2.2[k].2) := ⟨kS.cell 0, kS.cell 1⟩
        have zA' : w1.heap.size ≤ (wr.alloc (.cells #[.int .i64 x.2.2.2[k].1, .int .i64 x.2.2.2[k].2] 87)).drew.heap.size := zA
        go_region_held3 (fun W => W.cell? ⟨wr.heap.size, 0, none⟩ = some (.int .i64 x.2.2.2[k].1) ∧ W.cell? ⟨wr.heap.size, 1, none⟩ = some (.int .i64 x.2.2.2[k].2))
          (first | exact cS | trivial)
          (first
            | (go_at_call 100; (first | with_reducible refine (h1 _).mono ?_ | with_reducible refine (h2 _).mono ?_); rintro e w' ⟨rfl, u'⟩; replace kS := kS.up u'; replace cS := And.intro (kS.cell 0) (kS.cell 1); replace kA := kA.up u'; replace uA := uA.trans u'; replace bA' := bld_up bA' u'; replace zA' := Nat.le_trans zA' u'.size)
            | (go_at_call 99; refine (c_WriteString _ _ bb.data.toList (r1 ++ r2) _ bA' (by rw [ybl, y12]; omega) zA').mono ?_; rintro e w' ⟨rfl, bN, kN, oN⟩; replace cS := And.intro ((kS.others oN (by omega) (by decide)).cell 0) ((kS.others oN (by omega) (by decide)).cell 1); replace kA := kA.below kN zk; replace uA := uA.below kN (by omega); replace zA' := Nat.le_trans zA' kN.size; rw [HL.out] at bN))
        all_goals
          go_wp2_with fail
          go_roundw
          case rel => exact ⟨k + 1, bb ++ (r1 ++ r2), by omega, by go_num, HS, ZS.out, uA, kA, bN, zA'⟩
          case measure => simp [intOf]; omega
      · obtain rfl : k = x.2.2.2.length := by omega
        go_wp2_with fail
        refine (f0 _).mono ?_
        rintro e w3 ⟨rfl, u3⟩
        go_wp2_with fail
        refine (c_BString _ _ bb.data.toList _ (bld_up bA u3) (Nat.le_trans zA u3.size)).mono ?_
        rintro e w4 ⟨rfl, kN⟩
        have e4 : Hid ((⟨bb.data.toList.toArray⟩ : ByteArray) = bb) := by unfold Hid; simp
        rw [e4.out]
        have uu4 := (hu.trans u3).below kN (by omega)
        go_wp2_with fail
        refine (ci_Stamped s0 bb 1700 _ (by unfold maxLen; omega) (by omega) (by unfold maxLen; omega) (by omega) ⟨by decide, by decide⟩).mono ?_
        rintro e w5 ⟨rfl, u5⟩
        have HM : Hid (putTop x = stamped s0 bb 1700) := by unfold Hid; rw [HN.out, S0.out, HB.out]
        go_wp2_with fail
        go_ret
        exact ret_str HM (uu4.trans u5)
end Go.Proofs.YtlifhbfomgbiaaaGreatDoor
