/-
  DiskFlush: the program's and the reference's give one disk in new memory.
-/
import Derived.Test.YtaobkpaefelkkaaFl
import Derived.Test.YtaobkpaefelkkaaLd
import Derived.Test.YtaobkpaefelkkaaLe
namespace Go.Proofs.Ytaobkpaefelkkaa
open Go.RowKit
set_option linter.unusedVariables false
set_option linter.unusedSimpArgs false

def diskFlush (d : TDisk) : TDisk := if diskOk d = true then (d.1, flushS d.2.1 d.2.2, []) else (0, [], [])
theorem puts_in {d : TDisk} (h : diskOk d = true) : ∀ p ∈ d.2.2, 0 ≤ p.1 ∧ p.1 < d.2.1.length := by
  intro p hp
  simp only [diskOk, Bool.and_eq_true, Bool.not_eq_true', List.any_eq_false] at h
  have := h.2 p hp
  simp [badPut, inB] at this
  omega
theorem own_zeroDisk (w : World) (lo hi : Nat) : shDisk.own w lo hi [.int .i64 0, .slice none 0 0, .slice none 0 0] (0, [], []) [] := asmDisk (x0 := 0) (x1 := []) (x2 := []) ⟨by decide, by decide⟩ (SO.nil _ _ _) (SO.nil _ _ _)

set_option maxRecDepth 100000 in
set_option maxHeartbeats 4000000 in
theorem cs0_DiskFlush (v : Value) (x : TDisk) (w : World) (h : AV shDisk w v x) (hn : shDisk.sz x ≤ 1048576) : Calls Try.prog 46 #[v] w (ToV shDisk (diskFlush x) w) := by
  have hv := h
  obtain ⟨cs, rfl, h⟩ := h
  obtain ⟨A1, c1, A2, c2, rfl, b0, b1, b2⟩ := openDisk h
  clear h
  have vv0 : Up w ((w.alloc (.cells #[.int .i64 x.1, .slice A1 x.2.1.length c1, .slice A2 x.2.2.length c2] 44)).alloc (.cells #[.int .i64 0, .slice none 0 0, .slice none 0 0] 44)) := ((Up.refl _).alloc _).alloc _
  have ja0 : Bk ((w.alloc (.cells #[.int .i64 x.1, .slice A1 x.2.1.length c1, .slice A2 x.2.2.length c2] 44)).alloc (.cells #[.int .i64 0, .slice none 0 0, .slice none 0 0] 44)) w.heap.size 44 #[.int .i64 x.1, .slice A1 x.2.1.length c1, .slice A2 x.2.2.length c2] := (Bk.new _ _ _).alloc _
  have jr0 : Bk ((w.alloc (.cells #[.int .i64 x.1, .slice A1 x.2.1.length c1, .slice A2 x.2.2.length c2] 44)).alloc (.cells #[.int .i64 0, .slice none 0 0, .slice none 0 0] 44)) (w.heap.size + 1) 44 #[.int .i64 0, .slice none 0 0, .slice none 0 0] := by simpa using Bk.new (w.alloc (.cells #[.int .i64 x.1, .slice A1 x.2.1.length c1, .slice A2 x.2.2.length c2] 44)) 44 #[.int .i64 0, .slice none 0 0, .slice none 0 0]
  go_enter Try.func46, Try.ntmps46
  go_wp2_with fail
  refine (cs_DiskOk _ x _ (hv.up good_Disk vv0) hn).mono ?_
  rintro e w1 ⟨rfl, u1⟩
  have uu1 := vv0.trans u1
  have ka1 := ja0.up u1
  have kr1 := jr0.up u1
  have ga1_0 : w1.cell? ⟨w.heap.size, 0, none⟩ = some (.int .i64 x.1) := ka1.cell 0
  have gr1_0 : w1.cell? ⟨w.heap.size + 1, 0, none⟩ = some (.int .i64 0) := kr1.cell 0
  have fr1_0 := kr1.frozen 0
  have ga1_1 : w1.cell? ⟨w.heap.size, 1, none⟩ = some (.slice A1 x.2.1.length c1) := ka1.cell 1
  have gr1_1 : w1.cell? ⟨w.heap.size + 1, 1, none⟩ = some (.slice none 0 0) := kr1.cell 1
  have fr1_1 := kr1.frozen 1
  have ga1_2 : w1.cell? ⟨w.heap.size, 2, none⟩ = some (.slice A2 x.2.2.length c2) := ka1.cell 2
  have gr1_2 : w1.cell? ⟨w.heap.size + 1, 2, none⟩ = some (.slice none 0 0) := kr1.cell 2
  have fr1_2 := kr1.frozen 2
  cases hok : diskOk x with
  | false =>
    go_wp2_with fail
    refine bodyPost_ret (v := .agg #[.int .i64 0, .slice none 0 0, .slice none 0 0]) (by simp [results, Try.results46, go_sem, gr1_0, gr1_1, gr1_2]) rfl ?_
    have hd : diskFlush x = (0, [], []) := by simp [diskFlush, hok]
    rw [hd]
    exact ⟨[.int .i64 0, .slice none 0 0, .slice none 0 0], [], rfl, own_zeroDisk _ _ _, by simp, uu1.sets (g := w.heap.size + 1) (by omega) 0 [.int .i64 0, .slice none 0 0, .slice none 0 0]⟩
  | true =>
    have hd : diskFlush x = (x.1, flushS x.2.1 x.2.2, []) := by simp [diskFlush, hok]
    rw [hd]
    have hp := puts_in hok
    have hlen : (flushS x.2.1 x.2.2).length = x.2.1.length := flushS_len _ _
    have z1 := kr1.lt
    go_wp2_with fail
    refine (c_l17Flush _ x _ (hv.up good_Disk uu1) hn hp).mono ?_
    rintro e w2 ⟨cs2, bl2, rfl, o2, nd2, u2⟩
    obtain ⟨D1, d1, _, D2, d2, _, rfl, _, _⟩ := openODisk o2
    have ka2 := ka1.up u2
    have kr2 := kr1.up u2
    have uu2 := uu1.trans u2
    have ga2_0 : w2.cell? ⟨w.heap.size, 0, none⟩ = some (.int .i64 x.1) := ka2.cell 0
    have gr2_0 : w2.cell? ⟨w.heap.size + 1, 0, none⟩ = some (.int .i64 0) := kr2.cell 0
    have fr2_0 := kr2.frozen 0
    have ga2_1 : w2.cell? ⟨w.heap.size, 1, none⟩ = some (.slice A1 x.2.1.length c1) := ka2.cell 1
    have gr2_1 : w2.cell? ⟨w.heap.size + 1, 1, none⟩ = some (.slice none 0 0) := kr2.cell 1
    have fr2_1 := kr2.frozen 1
    have ga2_2 : w2.cell? ⟨w.heap.size, 2, none⟩ = some (.slice A2 x.2.2.length c2) := ka2.cell 2
    have gr2_2 : w2.cell? ⟨w.heap.size + 1, 2, none⟩ = some (.slice none 0 0) := kr2.cell 2
    have fr2_2 := kr2.frozen 2
    dsimp only [List.length_nil] at o2 ⊢
    rw [hlen] at o2
    rw [hlen]
    have z2 := u2.size
    go_wp2_with fail
    refine bodyPost_ret (v := .agg #[.int .i64 x.1, .slice D1 x.2.1.length d1, .slice D2 0 d2]) (by simp [results, Try.results46, go_sem, gr2_0, gr2_1, gr2_2]) rfl ?_
    exact ⟨[.int .i64 x.1, .slice D1 x.2.1.length d1, .slice D2 0 d2], _, rfl, good_Disk.own_wide (own_set good_Disk o2 (w.heap.size + 1) 0 [.int .i64 x.1, .slice D1 x.2.1.length d1, .slice D2 0 d2] (by omega)) (by omega) (Nat.le_refl _), nd2, uu2.sets (g := w.heap.size + 1) (by omega) 0 [.int .i64 x.1, .slice D1 x.2.1.length d1, .slice D2 0 d2]⟩

theorem cs_DiskFlush (v : Value) (x : TDisk) (w : World) (h : AV shDisk w v x) (hn : shDisk.sz x ≤ 1048576) : Calls Try.prog 46 #[v] w (RpV shDisk (diskFlush x) w) := (cs0_DiskFlush v x w h hn).mono fun _ _ h => h.rp good_Disk
set_option maxRecDepth 100000 in
set_option maxHeartbeats 4000000 in
theorem ci_DiskFlush (v : Value) (x : TDisk) (w : World) (h : AV shDisk w v x) (hn : shDisk.sz x ≤ 1048576) : Calls Try.prog 47 #[v] w (ToV shDisk (diskFlush x) w) := by
  have hv := h
  obtain ⟨cs, rfl, h⟩ := h
  obtain ⟨A1, c1, A2, c2, rfl, b0, b1, b2⟩ := openDisk h
  clear h
  have vv0 : Up w ((w.alloc (.cells #[.int .i64 x.1, .slice A1 x.2.1.length c1, .slice A2 x.2.2.length c2] 44)).alloc (.cells #[.int .i64 0, .slice none 0 0, .slice none 0 0] 44)) := ((Up.refl _).alloc _).alloc _
  have ja0 : Bk ((w.alloc (.cells #[.int .i64 x.1, .slice A1 x.2.1.length c1, .slice A2 x.2.2.length c2] 44)).alloc (.cells #[.int .i64 0, .slice none 0 0, .slice none 0 0] 44)) w.heap.size 44 #[.int .i64 x.1, .slice A1 x.2.1.length c1, .slice A2 x.2.2.length c2] := (Bk.new _ _ _).alloc _
  have jr0 : Bk ((w.alloc (.cells #[.int .i64 x.1, .slice A1 x.2.1.length c1, .slice A2 x.2.2.length c2] 44)).alloc (.cells #[.int .i64 0, .slice none 0 0, .slice none 0 0] 44)) (w.heap.size + 1) 44 #[.int .i64 0, .slice none 0 0, .slice none 0 0] := by simpa using Bk.new (w.alloc (.cells #[.int .i64 x.1, .slice A1 x.2.1.length c1, .slice A2 x.2.2.length c2] 44)) 44 #[.int .i64 0, .slice none 0 0, .slice none 0 0]
  go_enter Try.func47, Try.ntmps47
  go_wp2_with fail
  refine (ci_DiskOk _ x _ (hv.up good_Disk vv0) hn).mono ?_
  rintro e w1 ⟨rfl, u1⟩
  have uu1 := vv0.trans u1
  have ka1 := ja0.up u1
  have kr1 := jr0.up u1
  have ga1_0 : w1.cell? ⟨w.heap.size, 0, none⟩ = some (.int .i64 x.1) := ka1.cell 0
  have gr1_0 : w1.cell? ⟨w.heap.size + 1, 0, none⟩ = some (.int .i64 0) := kr1.cell 0
  have fr1_0 := kr1.frozen 0
  have ga1_1 : w1.cell? ⟨w.heap.size, 1, none⟩ = some (.slice A1 x.2.1.length c1) := ka1.cell 1
  have gr1_1 : w1.cell? ⟨w.heap.size + 1, 1, none⟩ = some (.slice none 0 0) := kr1.cell 1
  have fr1_1 := kr1.frozen 1
  have ga1_2 : w1.cell? ⟨w.heap.size, 2, none⟩ = some (.slice A2 x.2.2.length c2) := ka1.cell 2
  have gr1_2 : w1.cell? ⟨w.heap.size + 1, 2, none⟩ = some (.slice none 0 0) := kr1.cell 2
  have fr1_2 := kr1.frozen 2
  cases hok : diskOk x with
  | false =>
    go_wp2_with fail
    refine bodyPost_ret (v := .agg #[.int .i64 0, .slice none 0 0, .slice none 0 0]) (by simp [results, Try.results47, go_sem, gr1_0, gr1_1, gr1_2]) rfl ?_
    have hd : diskFlush x = (0, [], []) := by simp [diskFlush, hok]
    rw [hd]
    exact ⟨[.int .i64 0, .slice none 0 0, .slice none 0 0], [], rfl, own_zeroDisk _ _ _, by simp, uu1.sets (g := w.heap.size + 1) (by omega) 0 [.int .i64 0, .slice none 0 0, .slice none 0 0]⟩
  | true =>
    have hd : diskFlush x = (x.1, flushS x.2.1 x.2.2, []) := by simp [diskFlush, hok]
    rw [hd]
    have hp := puts_in hok
    have hlen : (flushS x.2.1 x.2.2).length = x.2.1.length := flushS_len _ _
    have z1 := kr1.lt
    go_wp2_with fail
    refine (c_copyDisk _ x _ (hv.up good_Disk uu1) hn).mono ?_
    rintro e w2 ⟨cs2, bl, rfl, o2, nd2, u2⟩
    obtain ⟨D1, d1, bl1, D2, d2, bl2, rfl, rfl, _, s1, s2⟩ := openODisk o2
    have uB := Up.alloc (Up.refl w2) (.cells #[.int .i64 x.1, .slice D1 x.2.1.length d1, .slice D2 x.2.2.length d2] 44)
    have kr2 := (kr1.up u2).up uB
    have ka2 := (ka1.up u2).up uB
    have uu2 := (uu1.trans u2).trans uB
    have kB := Bk.new w2 44 #[.int .i64 x.1, .slice D1 x.2.1.length d1, .slice D2 x.2.2.length d2]
    have zB := u2.size
    go_wp2_with fail
    refine (c_flush w2.heap.size w1.heap.size x.1 x.2.1 x.2.2 D1 D2 d1 d2 bl1 bl2 _ kB (s1.up good_S uB) (s2.up good_Put uB) nd2 (fun h => by have := (s1.in_ good_S _ h).2; omega) hp).mono ?_
    rintro e w3 ⟨rfl, kB3, s3, on3⟩
    have hm : ∀ y ∈ w2.heap.size :: bl1, w1.heap.size ≤ y := fun y hy => by
      rcases List.mem_cons.1 hy with rfl | hy
      · exact zB
      · exact (s1.in_ good_S y hy).1
    have uu3 : Up w w3 := uu2.only on3 (fun y hy => by have := hm y hy; omega)
    have kr3 := kr2.only on3 (fun hy => by have := hm _ hy; omega)
    have gr3_0 : w3.cell? ⟨w.heap.size + 1, 0, none⟩ = some (.int .i64 0) := kr3.cell 0
    have gr3_1 : w3.cell? ⟨w.heap.size + 1, 1, none⟩ = some (.slice none 0 0) := kr3.cell 1
    have gr3_2 : w3.cell? ⟨w.heap.size + 1, 2, none⟩ = some (.slice none 0 0) := kr3.cell 2
    have fr3_0 := kr3.frozen 0
    have fr3_1 := kr3.frozen 1
    have fr3_2 := kr3.frozen 2
    have gB_0 : w3.cell? ⟨w2.heap.size, 0, none⟩ = some (.int .i64 x.1) := kB3.cell 0
    have gB_1 : w3.cell? ⟨w2.heap.size, 1, none⟩ = some (.slice D1 x.2.1.length d1) := kB3.cell 1
    have gB_2 : w3.cell? ⟨w2.heap.size, 2, none⟩ = some (.slice none 0 0) := kB3.cell 2
    clear on3 kB3 ka2 kB uB
    go_wp2_with fail
    refine bodyPost_ret (v := .agg #[.int .i64 x.1, .slice D1 x.2.1.length d1, .slice none 0 0]) (by simp [results, Try.results47, go_sem, gr3_0, gr3_1, gr3_2]) rfl ?_
    rw [hd]
    have zz := (s3.set good_S (w.heap.size + 1) 0 [.int .i64 x.1, .slice D1 x.2.1.length d1, .slice none 0 0] (by omega)).wide good_S (lo' := w.heap.size) (by omega) (Nat.le_refl _)
    have asm := asmDisk (x0 := x.1) (x2 := []) b0 zz (SO.nil _ _ _)
    rw [hlen] at asm
    exact ⟨[.int .i64 x.1, .slice D1 x.2.1.length d1, .slice none 0 0], _, rfl, asm, by simpa using (List.nodup_append.1 nd2).1, uu3.sets (g := w.heap.size + 1) (by omega) 0 [.int .i64 x.1, .slice D1 x.2.1.length d1, .slice none 0 0]⟩


theorem sum_const {α : Type} (c : Nat) : ∀ xs : List α, (xs.map (fun _ => c)).sum = xs.length * c
  | [] => by simp
  | _ :: xs => by simp [sum_const c xs, Nat.succ_mul]; omega
theorem cntDisk_eq (x : TDisk) : mmTDisk.cnt x = x.2.1.length + x.2.2.length * 2 := by
  obtain ⟨x0, x1, x2⟩ := x
  show 0 + ((x1.map (fun _ => 1)).sum + (x2.map (fun _ => 2)).sum) = _
  rw [sum_const, sum_const]
  dsimp only
  omega
theorem cnt_Disk (x : TDisk) (hn : shDisk.sz x ≤ 1048576) : mmTDisk.cnt x ≤ 4000000 := by
  rw [cntDisk_eq]
  obtain ⟨x0, x1, x2⟩ := x
  have hs : shDisk.sz (x0, x1, x2) = 0 + ((x1.length + (x1.map shS.sz).sum) + (x2.length + (x2.map shPut.sz).sum)) := rfl
  dsimp only
  omega
theorem cbg_DiskFlush (x : TDisk) (hn : shDisk.sz x ≤ 1048576) : (1 : Int) + (mmTDisk.cnt (diskFlush x) : Nat) ≤ 1000000000 := by
  have h := cnt_Disk x hn
  rw [cntDisk_eq] at h ⊢
  unfold diskFlush
  split
  · dsimp only
    rw [flushS_len]
    simp only [List.length_nil]
    omega
  · decide

end Go.Proofs.Ytaobkpaefelkkaa
