/-
  NewDisk: a disk of zero bytes.
-/
import Derived.Test.YtafabcabffeikaaHas
import Derived.Test.YtafabcabffeikaaPu
import Derived.Test.YtafabcabffeikaaZs
import Derived.Shelf.Spec.SlicesInsert
namespace Go.Proofs.Ytafabcabffeikaa
open Go.RowKit
set_option linter.unusedVariables false
set_option linter.unusedSimpArgs false

/-- A row of strings in a block of its own. -/
theorem SO.rowS {w : World} {g lo n : Nat} {t : TypeId} {C : Array Value} {xs : List ByteArray} (h : Bk w g t C) (hlo : lo ≤ g) (hC : n ≤ C.size) (hl : xs.length ≤ n) (hm : n ≤ maxLen) (hx : ∀ j (hj : j < xs.length), C[j]? = some (.string xs[j]) ∧ xs[j].size ≤ maxLen) :
    SO shS w lo w.heap.size (some ⟨g, 0, none⟩) n xs [g] := by
  refine ⟨hl, hm, .inr ⟨g, 0, C, t, List.replicate xs.length [], rfl, hlo, h.lt, h, by simpa [shS] using hC, by simp, by simp, fun i hi => ?_⟩⟩
  refine ⟨[.string xs[i]], [], by simp [hi], rfl, fun j hj => ?_, ⟨⟨rfl, (hx i hi).2⟩, rfl⟩⟩
  obtain rfl : j = 0 := by have : j < 1 := hj; omega
  simpa [shS] using (hx i hi).1

set_option maxRecDepth 100000 in
set_option maxHeartbeats 4000000 in
theorem c_RepeatS (z : ByteArray) (B n : Nat) (w : World) (hB : Bk w B 9 #[.string z]) (hz : z.size ≤ maxLen) (h1 : 1 ≤ n) (h2 : n ≤ 1048576) :
    Calls Try.prog 83 #[.slice (some ⟨B, 0, none⟩) 1 1, .int .i64 (n : Int)] w (ToL shS (List.replicate n z) w) := by
  obtain ⟨i0, hi0, hz0, hz1, hz2⟩ := info_parts cinfo_StringS
  have hs1 : (Try.prog.info? 9).map (·.size) = some 1 := by rw [hi0]; simp [hz1]
  have hmk := run_make_rows (P := Try.prog) 33 9 i0 _ Try.underlying33 hi0 hz0 n (by rw [hz2]; omega) (by omega) w
  rw [hz1, Nat.mul_one] at hmk
  simp only [Value.cells] at hmk
  have hmul : ∀ W : World, Calls Try.prog 138 #[.int .u64 1, .int .u64 (n : Int)] W fun e w' => e = .returned (.tuple #[.int .u64 0, .int .u64 (n : Int)]) ∧ W = w' := fun W => by
    have h := Go.Proofs.Try.bits_Mul 1 n (by omega) (by omega) W
    rw [Nat.one_mul, Nat.div_eq_of_lt (by omega), Nat.mod_eq_of_lt (by omega)] at h
    exact h.mono fun _ _ h => ⟨h.1, h.2.symm⟩
  have hBl := hB.lt
  have kg := Bk.new w 9 (madeCells #[.string ⟨#[]⟩] n)
  have hgs : (madeCells #[.string ⟨#[]⟩] n).size = n := by simp [madeCells]
  have hcp : ∀ ty, (Builtin.copy_ #[33, 33] ty #[.slice (some ⟨w.heap.size, 0, none⟩) n n, .slice (some ⟨B, 0, none⟩) 1 1]).run Try.prog (w.alloc (.cells (madeCells #[.string ⟨#[]⟩] n) 9)) = .ok (.int .i64 1) (setCells (w.alloc (.cells (madeCells #[.string ⟨#[]⟩] n) 9)) w.heap.size 0 [.string z]) := fun ty => by
    have h := run_copy_cells (P := Try.prog) (w.alloc (.cells (madeCells #[.string ⟨#[]⟩] n) 9)) 33 33 ty 9 w.heap.size 0 n n ⟨B, 0, none⟩ 1 1 [.string z] Try.underlying33 hs1 (by simp [Nat.min_def]; omega)
      (fun j v hv => by
        obtain rfl : j = 0 := by have := (List.getElem?_eq_some_iff.1 hv).1; simp at this; exact this
        have e : (⟨B, 0, none⟩ : Addr).add 0 = ⟨B, 0, none⟩ := by simp [Addr.add]
        rw [e, (hB.alloc _).cell]
        simpa using hv)
      (fun j hj => by
        obtain rfl : j = 0 := by simp at hj; exact hj
        rw [kg.cell, Array.getElem?_eq_getElem (by rw [hgs]; omega)]; rfl) (fun j hj => kg.frozen _) (by simp [Value.oneCell'])
    rw [setCells_eq] at h
    exact h
  have kg1 := kg.sets [.string z] 0
  have ug1 : Up w (setCells (w.alloc (.cells (madeCells #[.string ⟨#[]⟩] n) 9)) w.heap.size 0 [.string z]) := ((Up.refl w).alloc _).sets (Nat.le_refl _) 0 _
  have hg1 : (putCells (madeCells #[.string ⟨#[]⟩] n) 0 [.string z]).size = n := by rw [putCells_size, hgs]
  have hg1c : ∀ j, j < 1 → (putCells (madeCells #[.string ⟨#[]⟩] n) 0 [.string z])[j]? = some (.string z) := fun j hj => by
    obtain rfl : j = 0 := by omega
    have := putCells_at [.string z] (madeCells #[.string ⟨#[]⟩] n) 0 0 (by rw [hgs]; simpa using h1) (by simp)
    simpa using this
  obtain ⟨W1, hW1⟩ : ∃ W1, W1 = setCells (w.alloc (.cells (madeCells #[.string ⟨#[]⟩] n) 9)) w.heap.size 0 [.string z] := ⟨_, rfl⟩
  rw [← hW1] at hcp kg1 ug1
  clear hW1
  have hn0 : (0 : Int) < n := by omega
  go_enter Try.func83, Try.ntmps83
  go_wp2_with (first
    | (go_at_call 138; refine (hmul _).mono ?_; rintro e w' ⟨rfl, rfl⟩)
    | (at_builtin; refine Go.Proofs.wpList_copy_runI _ rfl _ _ _ _ rfl _ _ rfl rfl (hcp _) ?_))
  go_loopw [8] (fun v wr => ∃ (m : Nat) (C : Array Value), v = .int .i64 m ∧ 1 ≤ m ∧ m ≤ n ∧ Bk wr w.heap.size 9 C ∧ C.size = n ∧ (∀ j, j < m → C[j]? = some (.string z)) ∧ Up w wr) (fun v _ => n - (intOf v).toNat)
  case atStart => exact ⟨1, _, rfl, Nat.le_refl _, h1, kg1, hg1, hg1c, ug1⟩
  case round =>
    obtain ⟨m, C, rfl, hm1, hm2, kb, hC, hcc, hu⟩ := hrel
    by_cases hlt : m < n
    · have hrun : ∀ ty, (Builtin.copy_ #[33, 33] ty #[.slice (some ⟨w.heap.size, m, none⟩) (n - m) (n - m), .slice (some ⟨w.heap.size, 0, none⟩) m n]).run Try.prog wr.drew = .ok (.int .i64 ((min m (n - m) : Nat) : Int)) (setCells wr.drew w.heap.size m (List.replicate (min m (n - m)) (.string z))) := fun ty => by
        have h := run_copy_cells (P := Try.prog) wr.drew 33 33 ty 9 w.heap.size m (n - m) (n - m) ⟨w.heap.size, 0, none⟩ m n (List.replicate (min m (n - m)) (.string z)) Try.underlying33 hs1 (by simp)
          (fun j v hv => by
            have hj := (List.getElem?_eq_some_iff.1 hv).1
            simp at hj
            have e : (⟨w.heap.size, 0, none⟩ : Addr).add j = ⟨w.heap.size, 0 + j, none⟩ := by unfold Addr.add; split <;> simp_all
            rw [e, Nat.zero_add, kb.drew.cell, hcc j (by omega)]
            rw [List.getElem?_replicate, if_pos (by omega)] at hv
            exact hv)
          (fun j hj => by
            simp at hj
            rw [kb.drew.cell, Array.getElem?_eq_getElem (by omega)]; rfl) (fun j hj => kb.drew.frozen _) (fun v hv => by rw [List.eq_of_mem_replicate hv]; rfl)
        rw [setCells_eq, List.length_replicate] at h
        exact h
      have kb2 := kb.drew.sets (List.replicate (min m (n - m)) (.string z)) m
      have hu2 := hu.drew.sets (g := w.heap.size) (Nat.le_refl _) m (List.replicate (min m (n - m)) (.string z))
      obtain ⟨W2, hW2⟩ : ∃ W2, W2 = setCells wr.drew w.heap.size m (List.replicate (min m (n - m)) (.string z)) := ⟨_, rfl⟩
      rw [← hW2] at hrun kb2 hu2
      clear hW2
      obtain ⟨q, hq⟩ : ∃ q, q = min m (n - m) := ⟨_, rfl⟩
      have hsub : (n : Int) - (m : Int) = ((n - m : Nat) : Int) := by omega
      rw [← hq] at hrun kb2
      have hC2 : (putCells C m (List.replicate q (.string z))).size = n := by rw [putCells_size, hC]
      have hcc2 : ∀ j, j < m + q → (putCells C m (List.replicate q (.string z)))[j]? = some (.string z) := fun j hj => by
        rcases Nat.lt_or_ge j m with h | h
        · rw [putCells_far _ _ _ _ (.inl h)]; exact hcc j h
        · obtain ⟨t, rfl⟩ : ∃ t, j = m + t := ⟨j - m, by omega⟩
          rw [putCells_at _ _ _ _ (by rw [List.length_replicate, hC]; omega) (by rw [List.length_replicate]; omega), List.getElem?_replicate, if_pos (by omega)]
      have hq1 : 1 ≤ q := by omega
      have hq2 : m + q ≤ n := by omega
      clear hq
      have hwr : IntKind.i64.wrap ((m : Int) + (q : Int)) = ((m + q : Nat) : Int) := by rw [IntWalk.i64_in _ (by omega)]; omega
      have hne : ¬ n = m := by omega
      go_wp2_with fail
      go_region_held3 (fun _ => True) (first | trivial) (first | (refine Go.Proofs.step_copy_runI rfl _ _ _ _ rfl _ _ (by rfl) (by rfl) (hrun _) ?_))
      go_wp2_with fail
      go_roundw
      case rel => exact ⟨m + q, _, by go_num, by omega, hq2, kb2, hC2, hcc2, hu2⟩
      case measure => simp [intOf]; omega
    · obtain rfl : m = n := by omega
      go_wp2_with fail
      go_ret
      have hso := SO.rowS (n := m) (xs := List.replicate m z) kb (Nat.le_refl _) (by omega) (by simp) (by unfold maxLen; omega) (fun j hj => by
        simp at hj
        exact ⟨by rw [hcc j hj]; simp, by simpa using hz⟩)
      refine ⟨some ⟨w.heap.size, 0, none⟩, m, [w.heap.size], ?_, hso, by simp, hu⟩
      rw [List.length_replicate]
      rfl

def newDiskC (a b : Int) : Int := if inB a 1 400 = true ∧ inB b 1 2000 = true then 0 else 2
def newDisk (a b : Int) : TDisk := if newDiskC a b = 0 then (b, List.replicate a.toNat (zs b.toNat), []) else (0, [], [])

set_option maxRecDepth 100000 in
set_option maxHeartbeats 4000000 in
theorem cs0_NewDisk (a b : Int) (w : World) (ha : I64 a) (hb : I64 b) : Calls Try.prog 28 #[.int .i64 a, .int .i64 b] w (ToR shDisk (newDisk a b) (newDiskC a b) w) := by
  have ua1 : Up w (w.alloc (.cells #[.int .i64 0, .slice none 0 0, .slice none 0 0] 42)) := (Up.refl _).alloc _
  have uu1 := (Up.refl w).trans ua1
  have kr_1 : Bk (w.alloc (.cells #[.int .i64 0, .slice none 0 0, .slice none 0 0] 42)) (w.heap.size) 42 #[.int .i64 0, .slice none 0 0, .slice none 0 0] := by simpa using Bk.new w 42 #[.int .i64 0, .slice none 0 0, .slice none 0 0]
  have gr1_0 : (w.alloc (.cells #[.int .i64 0, .slice none 0 0, .slice none 0 0] 42)).cell? ⟨w.heap.size, 0, none⟩ = some (.int .i64 0) := kr_1.cell 0
  have fr1_0 := kr_1.frozen 0
  have gr1_1 : (w.alloc (.cells #[.int .i64 0, .slice none 0 0, .slice none 0 0] 42)).cell? ⟨w.heap.size, 1, none⟩ = some (.slice none 0 0) := kr_1.cell 1
  have fr1_1 := kr_1.frozen 1
  have gr1_2 : (w.alloc (.cells #[.int .i64 0, .slice none 0 0, .slice none 0 0] 42)).cell? ⟨w.heap.size, 2, none⟩ = some (.slice none 0 0) := kr_1.cell 2
  have fr1_2 := kr_1.frozen 2
  cases q1 : inB a 1 400
  · have hc : Hid (newDiskC a b = 2) := by unfold Hid; simp [newDiskC, q1]
    have hd : Hid (newDisk a b = (0, [], [])) := by unfold Hid; rw [newDisk, hc.out]; rfl
    go_enter Try.func28, Try.ntmps28
    go_wp2_with (go_at_call 59; refine (in_any _ _ _ _).mono ?_; rintro e w' ⟨rfl, rfl⟩)
    refine bodyPost_ret (v := .tuple #[.agg #[.int .i64 0, .slice none 0 0, .slice none 0 0], .int .i64 2]) (by simp [results, Try.results28, go_sem, gr1_0, gr1_1, gr1_2]) rfl ?_
    exact toR_of hd hc (zeroR _ _ _ uu1)
  cases q2 : inB b 1 2000
  · have hc : Hid (newDiskC a b = 2) := by unfold Hid; simp [newDiskC, q2]
    have hd : Hid (newDisk a b = (0, [], [])) := by unfold Hid; rw [newDisk, hc.out]; rfl
    go_enter Try.func28, Try.ntmps28
    go_wp2_with (go_at_call 59; refine (in_any _ _ _ _).mono ?_; rintro e w' ⟨rfl, rfl⟩)
    refine bodyPost_ret (v := .tuple #[.agg #[.int .i64 0, .slice none 0 0, .slice none 0 0], .int .i64 2]) (by simp [results, Try.results28, go_sem, gr1_0, gr1_1, gr1_2]) rfl ?_
    exact toR_of hd hc (zeroR _ _ _ uu1)
  obtain ⟨q1a, q1b⟩ := inB_t.1 q1
  obtain ⟨q2a, q2b⟩ := inB_t.1 q2
  have hc : Hid (newDiskC a b = 0) := by unfold Hid; simp [newDiskC, q1, q2]
  have hd : Hid (newDisk a b = (b, List.replicate a.toNat (zs b.toNat), [])) := by unfold Hid; rw [newDisk, hc.out]; rfl
  have hzs := zs_size b.toNat
  have hzm : (zs b.toNat).size ≤ maxLen := by rw [hzs]; unfold maxLen; omega
  obtain ⟨m, rfl⟩ : ∃ m : Nat, a = (m : Int) := ⟨a.toNat, by omega⟩
  obtain ⟨n, rfl⟩ : ∃ n : Nat, b = (n : Int) := ⟨b.toNat, by omega⟩
  rw [Int.toNat_natCast] at hzs hzm hd
  rw [Int.toNat_natCast] at hd
  obtain ⟨CZ, hmk, hcv⟩ := run_zs n (by omega)
  generalize zs n = z at *
  obtain ⟨i2, hi2, hy0, hy1, hy2⟩ := info_parts cinfo_StringS
  have ua2 : Up (w.alloc (.cells #[.int .i64 0, .slice none 0 0, .slice none 0 0] 42)) ((w.alloc (.cells #[.int .i64 0, .slice none 0 0, .slice none 0 0] 42)).alloc (.cells #[.int .i64 (n : Int), .slice none 0 0, .slice none 0 0] 42)) := (Up.refl _).alloc _
  have uu2 := uu1.trans ua2
  have kr_2 := kr_1.up ua2
  have ko_2 : Bk ((w.alloc (.cells #[.int .i64 0, .slice none 0 0, .slice none 0 0] 42)).alloc (.cells #[.int .i64 (n : Int), .slice none 0 0, .slice none 0 0] 42)) (w.heap.size + 1) 42 #[.int .i64 (n : Int), .slice none 0 0, .slice none 0 0] := by simpa using Bk.new (w.alloc (.cells #[.int .i64 0, .slice none 0 0, .slice none 0 0] 42)) 42 #[.int .i64 (n : Int), .slice none 0 0, .slice none 0 0]
  have ua3 : Up ((w.alloc (.cells #[.int .i64 0, .slice none 0 0, .slice none 0 0] 42)).alloc (.cells #[.int .i64 (n : Int), .slice none 0 0, .slice none 0 0] 42)) (((w.alloc (.cells #[.int .i64 0, .slice none 0 0, .slice none 0 0] 42)).alloc (.cells #[.int .i64 (n : Int), .slice none 0 0, .slice none 0 0] 42)).alloc (.cells CZ 5)) := (Up.refl _).alloc _
  have uu3 := uu2.trans ua3
  have kr_3 := kr_2.up ua3
  have ko_3 := ko_2.up ua3
  have hcv1 := hcv ((w.alloc (.cells #[.int .i64 0, .slice none 0 0, .slice none 0 0] 42)).alloc (.cells #[.int .i64 (n : Int), .slice none 0 0, .slice none 0 0] 42))
  rw [show ((w.alloc (.cells #[.int .i64 0, .slice none 0 0, .slice none 0 0] 42)).alloc (.cells #[.int .i64 (n : Int), .slice none 0 0, .slice none 0 0] 42)).heap.size = w.heap.size + 1 + 1 by simp] at hcv1
  clear hcv
  go_enter Try.func28, Try.ntmps28
  go_wp2_with (go_at_call 59; refine (in_any _ _ _ _).mono ?_; rintro e w' ⟨rfl, rfl⟩)
  go_loopw [8] (fun i wr => ∃ (k : Nat) (D : Option Addr) (d : Nat) (bl : List Nat), k ≤ m ∧ i = .int .i64 k ∧ Bk wr (w.heap.size + 1) 42 #[.int .i64 (n : Int), .slice D k d, .slice none 0 0] ∧ Bk wr w.heap.size 42 #[.int .i64 0, .slice none 0 0, .slice none 0 0] ∧ SO shS wr (w.heap.size + 1 + 1) wr.heap.size D d (List.replicate k z) bl ∧ bl.Nodup ∧ w.heap.size + 1 + 1 ≤ wr.heap.size ∧ Up w wr) (fun i _ => m - (intOf i).toNat)
  case atStart => exact ⟨0, none, 0, [], Nat.zero_le _, rfl, ko_3, kr_3, SO.nil _ _ _, by simp, by simp, uu3⟩
  case round =>
    obtain ⟨k, D, d, bl, hk, rfl, kO, kR, so, nd, hsz, hu⟩ := hrel
    have zO := kO.lt
    have gO_0 : wr.cell? ⟨w.heap.size + 1, 0, none⟩ = some (.int .i64 (n : Int)) := kO.cell 0
    have gO_1 : wr.cell? ⟨w.heap.size + 1, 1, none⟩ = some (.slice D k d) := kO.cell 1
    have gO_2 : wr.cell? ⟨w.heap.size + 1, 2, none⟩ = some (.slice none 0 0) := kO.cell 2
    by_cases hlt : k < m
    · have kq := Bk.new wr 9 #[.string z]
      have uq := (Up.refl wr).alloc (.cells #[.string z] 9)
      have ho : shS.own (wr.alloc (.cells #[.string z] 9)) (w.heap.size + 1 + 1) (wr.alloc (.cells #[.string z] 9)).heap.size [.string z] z [] := ⟨⟨rfl, hzm⟩, rfl⟩
      have hOb : w.heap.size + 1 ∉ bl := fun h => by have := (so.in_ good_S _ h).1; omega
      have hRb : w.heap.size ∉ bl := fun h => by have := (so.in_ good_S _ h).1; omega
      have hlk : (List.replicate k z).length = k := List.length_replicate
      have sq := so.up good_S uq
      go_wp2_with (first
        | (at_builtin
           refine wpList_app good_S rfl _ _ _ _ 9 rfl i2 _ Try.underlying33 hi2 hy0 hy1 (by rfl) (lo := w.heap.size + 1 + 1) (xs := List.replicate k z) (ys := [z]) (bl := bl) (bs := [[]]) (news := [.string z]) (by rw [hlk]; rfl) rfl sq (by simpa using nd) (Src.box (t := 9) Try.underlying33 kq (by simp [Value.oneCell']) (by rw [hy1]; rfl)) (Rowed.one good_S ho) (by simp; omega) (by rw [hy2, hlk]; simp; omega) (by rw [hlk]; unfold maxLen; simp; omega) ?_
           intro D' d' bl' w1 hap
           obtain ⟨so1, nd1, mem1, on1⟩ := hap
           rw [hlk]
           have kO1 := (kO.up uq).only on1 hOb
           have kR1 := (kR.up uq).only on1 hRb
           have g1 : w1.cell? ⟨w.heap.size + 1, 1, none⟩ = some (.slice D k d) := kO1.cell 1
           have f1 := kO1.frozen 1))
      go_roundw
      case rel =>
        have bt := But.set w1 (w.heap.size + 1) 1 (.slice D' (k + 1) d')
        have hmem : ∀ y ∈ bl', w.heap.size + 1 + 1 ≤ y := fun y hy => (so1.in_ good_S y hy).1
        have e : List.replicate k z ++ [z] = List.replicate (k + 1) z := by rw [List.replicate_succ']
        rw [e] at so1
        have hs1 := on1.size
        simp at hs1
        refine ⟨k + 1, D', d', bl', by omega, by go_num, kO1.set 1 _, kR1.but bt (by omega), ?_, nd1, by rw [bt.size]; omega, (((hu.trans uq).only on1 (fun y hy => by have := (so.in_ good_S y hy).1; omega)).but bt (by omega))⟩
        rw [bt.size]
        exact so1.keep good_S (fun y hy => bt.block y (fun e => by have := hmem y hy; omega))
      case measure => simp [intOf]; omega
    · obtain rfl : k = m := by omega
      have gr_0 : wr.cell? ⟨w.heap.size, 0, none⟩ = some (.int .i64 0) := kR.cell 0
      have gr_1 : wr.cell? ⟨w.heap.size, 1, none⟩ = some (.slice none 0 0) := kR.cell 1
      have gr_2 : wr.cell? ⟨w.heap.size, 2, none⟩ = some (.slice none 0 0) := kR.cell 2
      have fr_0 := kR.frozen 0
      have fr_1 := kR.frozen 1
      have fr_2 := kR.frozen 2
      go_wp2_with fail
      refine bodyPost_ret (v := .tuple #[.agg #[.int .i64 (n : Int), .slice D k d, .slice none 0 0], .int .i64 0]) (by simp [results, Try.results28, go_sem, gr_0, gr_1, gr_2]) rfl ?_
      have z1 := (so.set good_S w.heap.size 0 [.int .i64 (n : Int), .slice D k d, .slice none 0 0] (by omega)).wide good_S (lo' := w.heap.size) (by omega) (Nat.le_refl _)
      have asm := asmDisk (x0 := (n : Int)) (x2 := []) hb z1 (SO.nil _ _ _)
      rw [List.length_replicate] at asm
      exact toR_of hd hc ⟨[.int .i64 (n : Int), .slice D k d, .slice none 0 0], _, rfl, asm, by simpa using nd, hu.sets (g := w.heap.size) (by omega) 0 [.int .i64 (n : Int), .slice D k d, .slice none 0 0]⟩

set_option maxRecDepth 100000 in
set_option maxHeartbeats 4000000 in
theorem ci_NewDisk (a b : Int) (w : World) (ha : I64 a) (hb : I64 b) : Calls Try.prog 29 #[.int .i64 a, .int .i64 b] w (ToR shDisk (newDisk a b) (newDiskC a b) w) := by
  have ua1 : Up w (w.alloc (.cells #[.int .i64 0, .slice none 0 0, .slice none 0 0] 42)) := (Up.refl _).alloc _
  have uu1 := (Up.refl w).trans ua1
  have kr_1 : Bk (w.alloc (.cells #[.int .i64 0, .slice none 0 0, .slice none 0 0] 42)) (w.heap.size) 42 #[.int .i64 0, .slice none 0 0, .slice none 0 0] := by simpa using Bk.new w 42 #[.int .i64 0, .slice none 0 0, .slice none 0 0]
  have gr1_0 : (w.alloc (.cells #[.int .i64 0, .slice none 0 0, .slice none 0 0] 42)).cell? ⟨w.heap.size, 0, none⟩ = some (.int .i64 0) := kr_1.cell 0
  have fr1_0 := kr_1.frozen 0
  have gr1_1 : (w.alloc (.cells #[.int .i64 0, .slice none 0 0, .slice none 0 0] 42)).cell? ⟨w.heap.size, 1, none⟩ = some (.slice none 0 0) := kr_1.cell 1
  have fr1_1 := kr_1.frozen 1
  have gr1_2 : (w.alloc (.cells #[.int .i64 0, .slice none 0 0, .slice none 0 0] 42)).cell? ⟨w.heap.size, 2, none⟩ = some (.slice none 0 0) := kr_1.cell 2
  have fr1_2 := kr_1.frozen 2
  cases q1 : inB a 1 400
  · have hc : Hid (newDiskC a b = 2) := by unfold Hid; simp [newDiskC, q1]
    have hd : Hid (newDisk a b = (0, [], [])) := by unfold Hid; rw [newDisk, hc.out]; rfl
    go_enter Try.func29, Try.ntmps29
    go_wp2_with (go_at_call 62; refine (within_any _ _ _ _).mono ?_; rintro e w' ⟨rfl, rfl⟩)
    refine bodyPost_ret (v := .tuple #[.agg #[.int .i64 0, .slice none 0 0, .slice none 0 0], .int .i64 2]) (by simp [results, Try.results29, go_sem, gr1_0, gr1_1, gr1_2]) rfl ?_
    exact toR_of hd hc (zeroR _ _ _ uu1)
  cases q2 : inB b 1 2000
  · have hc : Hid (newDiskC a b = 2) := by unfold Hid; simp [newDiskC, q2]
    have hd : Hid (newDisk a b = (0, [], [])) := by unfold Hid; rw [newDisk, hc.out]; rfl
    go_enter Try.func29, Try.ntmps29
    go_wp2_with (go_at_call 62; refine (within_any _ _ _ _).mono ?_; rintro e w' ⟨rfl, rfl⟩)
    refine bodyPost_ret (v := .tuple #[.agg #[.int .i64 0, .slice none 0 0, .slice none 0 0], .int .i64 2]) (by simp [results, Try.results29, go_sem, gr1_0, gr1_1, gr1_2]) rfl ?_
    exact toR_of hd hc (zeroR _ _ _ uu1)
  obtain ⟨q1a, q1b⟩ := inB_t.1 q1
  obtain ⟨q2a, q2b⟩ := inB_t.1 q2
  have hc : Hid (newDiskC a b = 0) := by unfold Hid; simp [newDiskC, q1, q2]
  have hd : Hid (newDisk a b = (b, List.replicate a.toNat (zs b.toNat), [])) := by unfold Hid; rw [newDisk, hc.out]; rfl
  have hzs := zs_size b.toNat
  have hzm : (zs b.toNat).size ≤ maxLen := by rw [hzs]; unfold maxLen; omega
  obtain ⟨m, rfl⟩ : ∃ m : Nat, a = (m : Int) := ⟨a.toNat, by omega⟩
  go_enter Try.func29, Try.ntmps29
  go_wp2_with (go_at_call 62; refine (within_any _ _ _ _).mono ?_; rintro e w' ⟨rfl, rfl⟩)
  refine (c_zeros b _ (by omega) (by omega)).mono ?_
  rintro e w2 ⟨rfl, u2⟩
  have uu2 := uu1.trans u2
  have kr_2 := kr_1.up u2
  have zr_2 := kr_2.lt
  clear gr1_0 fr1_0 gr1_1 fr1_1 gr1_2 fr1_2
  have gr2_0 : w2.cell? ⟨w.heap.size, 0, none⟩ = some (.int .i64 0) := kr_2.cell 0
  have fr2_0 := kr_2.frozen 0
  have gr2_1 : w2.cell? ⟨w.heap.size, 1, none⟩ = some (.slice none 0 0) := kr_2.cell 1
  have fr2_1 := kr_2.frozen 1
  have gr2_2 : w2.cell? ⟨w.heap.size, 2, none⟩ = some (.slice none 0 0) := kr_2.cell 2
  have fr2_2 := kr_2.frozen 2
  have ua3 : Up w2 (w2.alloc (.cells #[.string (zs b.toNat)] 9)) := (Up.refl _).alloc _
  have uu3 := uu2.trans ua3
  have kr_3 := kr_2.up ua3
  have kz_3 : Bk (w2.alloc (.cells #[.string (zs b.toNat)] 9)) (w2.heap.size) 9 #[.string (zs b.toNat)] := by simpa using Bk.new w2 9 #[.string (zs b.toNat)]
  have zz : w.heap.size < w2.heap.size := zr_2
  generalize hZ : zs b.toNat = z at *
  go_wp2_with fail
  refine (c_RepeatS z _ m _ (by simpa using kz_3) hzm (by omega) (by omega)).mono ?_
  rintro e w4 ⟨D, d, bl, rfl, o1, nd1, u4⟩
  have uu4 := uu3.trans u4
  have kr_4 := kr_3.up u4
  have zr_4 := kr_4.lt
  have kz_4 := kz_3.up u4
  have zz_4 := kz_4.lt
  rw [List.length_replicate]
  clear gr2_0 fr2_0 gr2_1 fr2_1 gr2_2 fr2_2
  have gr4_0 : w4.cell? ⟨w.heap.size, 0, none⟩ = some (.int .i64 0) := kr_4.cell 0
  have fr4_0 := kr_4.frozen 0
  have gr4_1 : w4.cell? ⟨w.heap.size, 1, none⟩ = some (.slice none 0 0) := kr_4.cell 1
  have fr4_1 := kr_4.frozen 1
  have gr4_2 : w4.cell? ⟨w.heap.size, 2, none⟩ = some (.slice none 0 0) := kr_4.cell 2
  have fr4_2 := kr_4.frozen 2
  have o1w := o1.wide good_S (lo' := w.heap.size + 1) (by simp; omega) (Nat.le_refl _)
  rw [Int.toNat_natCast] at hd
  go_wp2_with fail
  refine bodyPost_ret (v := .tuple #[.agg #[.int .i64 b, .slice D m d, .slice none 0 0], .int .i64 0]) (by simp [results, Try.results29, go_sem, gr4_0, gr4_1, gr4_2]) rfl ?_
  have z1 := (o1w.set good_S w.heap.size 0 [.int .i64 b, .slice D m d, .slice none 0 0] (by omega)).wide good_S (lo' := w.heap.size) (by omega) (Nat.le_refl _)
  have asm := asmDisk (x0 := b) (x2 := []) hb z1 (SO.nil _ _ _)
  rw [List.length_replicate] at asm
  exact toR_of hd hc ⟨[.int .i64 b, .slice D m d, .slice none 0 0], _, rfl, asm, by simpa using nd1, uu4.sets (g := w.heap.size) (by omega) 0 [.int .i64 b, .slice D m d, .slice none 0 0]⟩

theorem cs_NewDisk (a b : Int) (w : World) (ha : I64 a) (hb : I64 b) : Calls Try.prog 28 #[.int .i64 a, .int .i64 b] w (RpR shDisk (newDisk a b) (newDiskC a b) w) := (cs0_NewDisk a b w ha hb).mono fun _ _ h => h.rp good_Disk
theorem newDisk_len (a b : Int) : (newDisk a b).2.1.length ≤ 400 ∧ (newDisk a b).2.2 = [] := by
  unfold newDisk newDiskC
  by_cases h : inB a 1 400 = true ∧ inB b 1 2000 = true
  · rw [if_pos h, if_pos rfl]
    have := inB_t.1 h.1
    simp
    omega
  · rw [if_neg h, if_neg (by decide)]
    simp
theorem cbg_NewDisk (a b : Int) : (1 : Int) + (mmTDisk.cnt (newDisk a b) : Nat) ≤ 1000000000 := by
  have h := newDisk_len a b
  rw [cntDisk_eq, h.2]
  simp
  omega
end Go.Proofs.Ytafabcabffeikaa
