/-
  DiskPut: one write more in the buffer.
-/
import Derived.Test.YtafabcabffeikaaCd
import Derived.Test.YtafabcabffeikaaHas
import Derived.Test.YtafabcabffeikaaPu
namespace Go.Proofs.Ytafabcabffeikaa
open Go.RowKit
set_option linter.unusedVariables false
set_option linter.unusedSimpArgs false

def diskPutC (d : TDisk) (a : Int) (s : ByteArray) : Int := if diskOk d = true ∧ (s.size : Int) = d.1 then (if inB a 0 (d.2.1.length - 1) = true then (if d.2.2.length = 400 then 4 else 0) else 2) else 1
def diskPut (d : TDisk) (a : Int) (s : ByteArray) : TDisk := if diskPutC d a s = 0 then (d.1, d.2.1, d.2.2 ++ [(a, s)]) else (0, [], [])
theorem diskOk_puts {d : TDisk} (h : diskOk d = true) : d.2.2.length ≤ 400 := by
  simp only [diskOk, Bool.and_eq_true, Bool.not_eq_true', decide_eq_false_iff_not] at h
  omega

set_option maxRecDepth 100000 in
set_option maxHeartbeats 4000000 in
theorem c_put (B lo : Nat) (x0 : Int) (n1 : Nat) (x2 : List TPut) (D1 D2 : Option Addr) (d1 d2 : Nat) (bl2 : List Nat) (a : Int) (s : ByteArray) (w : World)
    (hB : Bk w B 42 #[.int .i64 x0, .slice D1 n1 d1, .slice D2 x2.length d2]) (h2 : SO shPut w lo w.heap.size D2 d2 x2 bl2) (nd : bl2.Nodup) (hBn : B ∉ bl2) (ha : I64 a) (hs : s.size ≤ maxLen) (hl : x2.length ≤ 1048576) (hlo : lo ≤ w.heap.size) :
    Calls Try.prog 78 #[.pointer (some ⟨B, 0, none⟩), .int .i64 a, .string s] w fun e w' => e = .returned (.tuple #[]) ∧ ∃ D d bl, Bk w' B 42 #[.int .i64 x0, .slice D1 n1 d1, .slice D (x2.length + 1) d] ∧ SO shPut w' lo w'.heap.size D d (x2 ++ [(a, s)]) bl ∧ bl.Nodup ∧ (∀ y ∈ bl, y ∈ bl2 ∨ w.heap.size ≤ y) ∧ B ∉ bl ∧ Only (B :: bl2) w w' := by
  obtain ⟨i2, hi2, hz0, hz1, hz2⟩ := info_parts cinfo_PutS
  have c2 : w.cell? ⟨B, 2, none⟩ = some (.slice D2 x2.length d2) := hB.cell 2
  have kq := Bk.new w 108 #[.int .i64 a, .string s]
  have u0 : Up w (w.alloc (.cells #[.int .i64 a, .string s] 108)) := (Up.refl w).alloc _
  have ho : shPut.own (w.alloc (.cells #[.int .i64 a, .string s] 108)) lo (w.alloc (.cells #[.int .i64 a, .string s] 108)).heap.size [.int .i64 a, .string s] (a, s) [] := mkOPut (x := (a, s)) ha hs
  have hBl := hB.lt
  go_enter Try.func78, Try.ntmps78
  go_wp2_with (first
    | (at_builtin
       refine wpList_app good_Put rfl _ _ _ _ 108 rfl i2 _ Try.underlying40 hi2 hz0 hz1 (by rfl) (lo := lo) (xs := x2) (ys := [(a, s)]) (bl := bl2) (bs := [[]]) (news := [.int .i64 a, .string s]) rfl rfl (h2.up good_Put u0) (by simpa using nd) (Src.box (t := 108) Try.underlying40 kq (by simp [Value.oneCell']) (by rw [hz1]; rfl)) (Rowed.one good_Put ho) (by simp; omega) (by rw [hz2]; simp; omega) (by unfold maxLen; simp; omega) ?_
       intro D d bl w1 hap
       obtain ⟨so1, nd1, mem1, on1⟩ := hap
       have kB1 := (hB.alloc (.cells #[.int .i64 a, .string s] 108)).only on1 hBn
       have g2 : w1.cell? ⟨B, 2, none⟩ = some (.slice D2 x2.length d2) := kB1.cell 2
       have f2 := kB1.frozen 2))
  have hmem : ∀ y ∈ bl, y ∈ bl2 ∨ w.heap.size ≤ y := fun y hy => by
    rcases mem1 y hy with h | h
    · exact .inl (by simpa using h)
    · exact .inr (by simp at h; omega)
  have hBb : B ∉ bl := fun hy => by
    rcases hmem B hy with h | h
    · exact hBn h
    · omega
  refine bodyPost_end (v := .tuple #[]) (by simp [results, Try.results78, go_sem]) (by rfl) ?_
  have hb2 := But.set w1 B 2 (.slice D (x2.length + 1) d)
  refine ⟨rfl, D, d, bl, kB1.set 2 _, ?_, nd1, hmem, hBb, ?_⟩
  · rw [hb2.size]
    exact so1.keep good_Put (fun b hb => hb2.block b (fun e => hBb (e ▸ hb)))
  · exact ((Only.of_up (bl := B :: bl2) u0).trans (on1.mono (fun y hy => List.mem_cons_of_mem _ hy))).but hb2 (List.mem_cons_self ..)

set_option maxRecDepth 100000 in
set_option maxHeartbeats 4000000 in
theorem cs0_DiskPut (v : Value) (x : TDisk) (a : Int) (s : ByteArray) (w : World) (h : AV shDisk w v x) (hn : shDisk.sz x ≤ 1048576) (ha : I64 a) (hs : s.size ≤ maxLen) (hsn : s.size ≤ 1048576) : Calls Try.prog 24 #[v, .int .i64 a, .string s] w (ToR shDisk (diskPut x a s) (diskPutC x a s) w) := by
  have hv := h
  obtain ⟨cs, rfl, h⟩ := h
  obtain ⟨A1, c1, A2, c2, rfl, b0, b1, b2⟩ := openDisk h
  clear h
  have hl2 := b2.len_le
  have vv0 : Up w ((w.alloc (.cells #[.int .i64 x.1, .slice A1 x.2.1.length c1, .slice A2 x.2.2.length c2] 42)).alloc (.cells #[.int .i64 0, .slice none 0 0, .slice none 0 0] 42)) := ((Up.refl _).alloc _).alloc _
  have ja0 : Bk ((w.alloc (.cells #[.int .i64 x.1, .slice A1 x.2.1.length c1, .slice A2 x.2.2.length c2] 42)).alloc (.cells #[.int .i64 0, .slice none 0 0, .slice none 0 0] 42)) w.heap.size 42 #[.int .i64 x.1, .slice A1 x.2.1.length c1, .slice A2 x.2.2.length c2] := (Bk.new _ _ _).alloc _
  have jr0 : Bk ((w.alloc (.cells #[.int .i64 x.1, .slice A1 x.2.1.length c1, .slice A2 x.2.2.length c2] 42)).alloc (.cells #[.int .i64 0, .slice none 0 0, .slice none 0 0] 42)) (w.heap.size + 1) 42 #[.int .i64 0, .slice none 0 0, .slice none 0 0] := by simpa using Bk.new (w.alloc (.cells #[.int .i64 x.1, .slice A1 x.2.1.length c1, .slice A2 x.2.2.length c2] 42)) 42 #[.int .i64 0, .slice none 0 0, .slice none 0 0]
  obtain ⟨b0l, b0h⟩ := id b0
  go_enter Try.func24, Try.ntmps24
  go_wp2_with fail
  refine (cs_DiskOk _ x _ (hv.up good_Disk vv0) hn).mono ?_
  rintro e w1 ⟨rfl, u1⟩
  have uu1 := vv0.trans u1
  have ka1 := ja0.up u1
  have kr1 := jr0.up u1
  have ga1_0 : w1.cell? ⟨w.heap.size, 0, none⟩ = some (.int .i64 x.1) := ka1.cell 0
  have gr1_0 : w1.cell? ⟨w.heap.size + 1, 0, none⟩ = some (.int .i64 0) := kr1.cell 0
  have fr1_0 := kr1.frozen 0
  have ga1_1 : w1.cell? ⟨w.heap.size, 1, none⟩ = some (.slice A1 x.2.1.length c1) := ka1.cell 1
  have gr1_1 : w1.cell? ⟨w.heap.size + 1, 1, none⟩ = some (.slice none 0 0) := kr1.cell 1
  have fr1_1 := kr1.frozen 1
  have ga1_2 : w1.cell? ⟨w.heap.size, 2, none⟩ = some (.slice A2 x.2.2.length c2) := ka1.cell 2
  have gr1_2 : w1.cell? ⟨w.heap.size + 1, 2, none⟩ = some (.slice none 0 0) := kr1.cell 2
  have fr1_2 := kr1.frozen 2
  cases hok : diskOk x with
  | false =>
    have hc : Hid (diskPutC x a s = 1) := by unfold Hid; simp [diskPutC, hok]
    have hd : Hid (diskPut x a s = (0, [], [])) := by unfold Hid; rw [diskPut, hc.out]; rfl
    go_wp2_with fail
    refine bodyPost_ret (v := .tuple #[.agg #[.int .i64 0, .slice none 0 0, .slice none 0 0], .int .i64 1]) (by simp [results, Try.results24, go_sem, gr1_0, gr1_1, gr1_2]) rfl ?_
    exact toR_of hd hc (zeroR _ _ _ (uu1.sets (g := w.heap.size + 1) (by omega) 0 [.int .i64 0, .slice none 0 0, .slice none 0 0]))
  | true =>
  have hp400 := diskOk_puts hok
  by_cases q0 : (s.size : Int) = x.1
  rotate_left
  · have q0' : ((s.size : Int) != x.1) = true := by simpa using q0
    have hc : Hid (diskPutC x a s = 1) := by unfold Hid; simp [diskPutC, q0]
    have hd : Hid (diskPut x a s = (0, [], [])) := by unfold Hid; rw [diskPut, hc.out]; rfl
    go_wp2_with fail
    refine bodyPost_ret (v := .tuple #[.agg #[.int .i64 0, .slice none 0 0, .slice none 0 0], .int .i64 1]) (by simp [results, Try.results24, go_sem, gr1_0, gr1_1, gr1_2]) rfl ?_
    exact toR_of hd hc (zeroR _ _ _ (uu1.sets (g := w.heap.size + 1) (by omega) 0 [.int .i64 0, .slice none 0 0, .slice none 0 0]))
  have q0' : ((s.size : Int) != x.1) = false := by simpa using q0
  have z1 := kr1.lt
  go_wp2_with fail
  refine (c_l17Has _ x _ _ (hv.up good_Disk uu1)).mono ?_
  rintro e w2 ⟨rfl, u2⟩
  have uu2 := uu1.trans u2
  have ka2 := ka1.up u2
  have kr2 := kr1.up u2
  have z2 := kr2.lt
  clear ga1_0 gr1_0 fr1_0 ga1_1 gr1_1 fr1_1 ga1_2 gr1_2 fr1_2
  have ga2_0 : w2.cell? ⟨w.heap.size, 0, none⟩ = some (.int .i64 x.1) := ka2.cell 0
  have gr2_0 : w2.cell? ⟨w.heap.size + 1, 0, none⟩ = some (.int .i64 0) := kr2.cell 0
  have fr2_0 := kr2.frozen 0
  have ga2_1 : w2.cell? ⟨w.heap.size, 1, none⟩ = some (.slice A1 x.2.1.length c1) := ka2.cell 1
  have gr2_1 : w2.cell? ⟨w.heap.size + 1, 1, none⟩ = some (.slice none 0 0) := kr2.cell 1
  have fr2_1 := kr2.frozen 1
  have ga2_2 : w2.cell? ⟨w.heap.size, 2, none⟩ = some (.slice A2 x.2.2.length c2) := ka2.cell 2
  have gr2_2 : w2.cell? ⟨w.heap.size + 1, 2, none⟩ = some (.slice none 0 0) := kr2.cell 2
  have fr2_2 := kr2.frozen 2
  cases q1 : inB a 0 (x.2.1.length - 1) with
  | false =>
    have hc : Hid (diskPutC x a s = 2) := by unfold Hid; simp [diskPutC, hok, q0, q1]
    have hd : Hid (diskPut x a s = (0, [], [])) := by unfold Hid; rw [diskPut, hc.out]; rfl
    go_wp2_with fail
    refine bodyPost_ret (v := .tuple #[.agg #[.int .i64 0, .slice none 0 0, .slice none 0 0], .int .i64 2]) (by simp [results, Try.results24, go_sem, gr2_0, gr2_1, gr2_2]) rfl ?_
    exact toR_of hd hc (zeroR _ _ _ (uu2.sets (g := w.heap.size + 1) (by omega) 0 [.int .i64 0, .slice none 0 0, .slice none 0 0]))
  | true =>
  by_cases q2 : x.2.2.length = 400
  · have hc : Hid (diskPutC x a s = 4) := by unfold Hid; simp [diskPutC, hok, q0, q1, q2]
    have hd : Hid (diskPut x a s = (0, [], [])) := by unfold Hid; rw [diskPut, hc.out]; rfl
    have q2' : ((x.2.2.length : Int) == 400) = true := by simp [q2]
    have q2'' : (400 : Int) ≤ (x.2.2.length : Int) := by omega
    go_wp2_with fail
    refine bodyPost_ret (v := .tuple #[.agg #[.int .i64 0, .slice none 0 0, .slice none 0 0], .int .i64 4]) (by simp [results, Try.results24, go_sem, gr2_0, gr2_1, gr2_2]) rfl ?_
    exact toR_of hd hc (zeroR _ _ _ (uu2.sets (g := w.heap.size + 1) (by omega) 0 [.int .i64 0, .slice none 0 0, .slice none 0 0]))
  have q2' : ((x.2.2.length : Int) == 400) = false := by simp; omega
  have q2'' : (x.2.2.length : Int) < 400 := by omega
  have hc : Hid (diskPutC x a s = 0) := by unfold Hid; simp [diskPutC, hok, q0, q1, q2]
  have hd : Hid (diskPut x a s = (x.1, x.2.1, x.2.2 ++ [(a, s)])) := by unfold Hid; rw [diskPut, hc.out]; rfl
  go_wp2_with fail
  refine (c_l17Own _ x _ (hv.up good_Disk uu2) hn).mono ?_
  rintro e w3 ⟨cs3, bl, rfl, o3, nd3, u3⟩
  obtain ⟨D1, d1, bl1, D2, d2, bl2, rfl, rfl, _, s1, s2⟩ := openODisk o3
  have uB := Up.alloc (Up.refl w3) (.cells #[.int .i64 x.1, .slice D1 x.2.1.length d1, .slice D2 x.2.2.length d2] 42)
  have kB := Bk.new w3 42 #[.int .i64 x.1, .slice D1 x.2.1.length d1, .slice D2 x.2.2.length d2]
  have ka3 := (ka2.up u3).up uB
  have kr3 := (kr2.up u3).up uB
  have uu3 := (uu2.trans u3).trans uB
  have zB := u3.size
  have s1B := s1.up good_S uB
  have s2B := s2.up good_Put uB
  have nd1 : bl1.Nodup := (List.nodup_append.1 nd3).1
  have nd2 : bl2.Nodup := (List.nodup_append.1 nd3).2.1
  have hdis : ∀ y ∈ bl1, y ∉ bl2 := fun y hy hy2 => (List.nodup_append.1 nd3).2.2 y hy y hy2 rfl
  have hin1 : ∀ y ∈ bl1, w2.heap.size ≤ y ∧ y < w3.heap.size := s1.in_ good_S
  have hin2 : ∀ y ∈ bl2, w2.heap.size ≤ y ∧ y < w3.heap.size := s2.in_ good_Put
  have hB2 : w3.heap.size ∉ bl2 := fun h => by have := hin2 _ h; omega
  obtain ⟨i2, hi2, hz0, hz1, hz2⟩ := info_parts cinfo_PutS
  have gB3_2 : (w3.alloc (.cells #[.int .i64 x.1, .slice D1 x.2.1.length d1, .slice D2 x.2.2.length d2] 42)).cell? ⟨w3.heap.size, 2, none⟩ = some (.slice D2 x.2.2.length d2) := kB.cell 2
  have kq : Bk ((w3.alloc (.cells #[.int .i64 x.1, .slice D1 x.2.1.length d1, .slice D2 x.2.2.length d2] 42)).alloc (.cells #[.int .i64 a, .string s] 108)) (w3.heap.size + 1) 108 #[.int .i64 a, .string s] := by simpa using Bk.new (w3.alloc (.cells #[.int .i64 x.1, .slice D1 x.2.1.length d1, .slice D2 x.2.2.length d2] 42)) 108 #[.int .i64 a, .string s]
  have uq := Up.alloc (Up.refl (w3.alloc (.cells #[.int .i64 x.1, .slice D1 x.2.1.length d1, .slice D2 x.2.2.length d2] 42))) (.cells #[.int .i64 a, .string s] 108)
  have ho : shPut.own ((w3.alloc (.cells #[.int .i64 x.1, .slice D1 x.2.1.length d1, .slice D2 x.2.2.length d2] 42)).alloc (.cells #[.int .i64 a, .string s] 108)) w2.heap.size ((w3.alloc (.cells #[.int .i64 x.1, .slice D1 x.2.1.length d1, .slice D2 x.2.2.length d2] 42)).alloc (.cells #[.int .i64 a, .string s] 108)).heap.size [.int .i64 a, .string s] (a, s) [] := mkOPut (x := (a, s)) ha hs
  have hz63 : x.2.2.length + 1 ≤ maxLen := by unfold maxLen; omega
  go_wp2_with (first
    | (at_builtin
       refine wpList_app good_Put rfl _ _ _ _ 108 rfl i2 _ Try.underlying40 hi2 hz0 hz1 (by rfl) (lo := w2.heap.size) (xs := x.2.2) (ys := [(a, s)]) (bl := bl2) (bs := [[]]) (news := [.int .i64 a, .string s]) rfl rfl (s2B.up good_Put uq) (by simpa using nd2) (Src.box (t := 108) Try.underlying40 kq (by simp [Value.oneCell']) (by rw [hz1]; rfl)) (Rowed.one good_Put ho) (by simp; omega) (by rw [hz2]; simp; omega) hz63 ?_
       intro D d bl' w5 hap
       obtain ⟨so5, nd4, mem5, on5⟩ := hap
       have kB5 := (kB.up uq).only on5 hB2
       have kr5 := (kr3.up uq).only on5 (fun hy => by have := hin2 _ hy; omega)
       have gB5_2 : w5.cell? ⟨w3.heap.size, 2, none⟩ = some (.slice D2 x.2.2.length d2) := kB5.cell 2
       have fB5_2 := kB5.frozen 2
       have zz5 : w3.heap.size < w5.heap.size := kB5.lt
       have hb5 := But.set w5 w3.heap.size 2 (.slice D (x.2.2.length + 1) d)
       have kB4 := kB5.set 2 (.slice D (x.2.2.length + 1) d)
       have kr4 := kr5.far (p := ⟨w3.heap.size, 2, none⟩) (by dsimp only; omega) (.slice D (x.2.2.length + 1) d)
       have gB4_0 : (w5.setCell ⟨w3.heap.size, 2, none⟩ (.slice D (x.2.2.length + 1) d)).cell? ⟨w3.heap.size, 0, none⟩ = some (.int .i64 x.1) := kB4.cell 0
       have gr4_0 : (w5.setCell ⟨w3.heap.size, 2, none⟩ (.slice D (x.2.2.length + 1) d)).cell? ⟨w.heap.size + 1, 0, none⟩ = some (.int .i64 0) := kr4.cell 0
       have fr4_0 := kr4.frozen 0
       have gB4_1 : (w5.setCell ⟨w3.heap.size, 2, none⟩ (.slice D (x.2.2.length + 1) d)).cell? ⟨w3.heap.size, 1, none⟩ = some (.slice D1 x.2.1.length d1) := kB4.cell 1
       have gr4_1 : (w5.setCell ⟨w3.heap.size, 2, none⟩ (.slice D (x.2.2.length + 1) d)).cell? ⟨w.heap.size + 1, 1, none⟩ = some (.slice none 0 0) := kr4.cell 1
       have fr4_1 := kr4.frozen 1
       have gB4_2 : (w5.setCell ⟨w3.heap.size, 2, none⟩ (.slice D (x.2.2.length + 1) d)).cell? ⟨w3.heap.size, 2, none⟩ = some (.slice D (x.2.2.length + 1) d) := kB4.cell 2
       have gr4_2 : (w5.setCell ⟨w3.heap.size, 2, none⟩ (.slice D (x.2.2.length + 1) d)).cell? ⟨w.heap.size + 1, 2, none⟩ = some (.slice none 0 0) := kr4.cell 2
       have fr4_2 := kr4.frozen 2))
  have hmm : ∀ y ∈ bl', y ∈ bl2 ∨ w3.heap.size + 1 ≤ y := fun y hy => by
    rcases mem5 y hy with h | h
    · exact .inl (by simpa using h)
    · exact .inr (by simp at h; omega)
  have on4 : Only (w3.heap.size :: bl2) (w3.alloc (.cells #[.int .i64 x.1, .slice D1 x.2.1.length d1, .slice D2 x.2.2.length d2] 42)) (w5.setCell ⟨w3.heap.size, 2, none⟩ (.slice D (x.2.2.length + 1) d)) := ((Only.of_up (bl := w3.heap.size :: bl2) uq).trans (on5.mono (fun y hy => List.mem_cons_of_mem _ hy))).but hb5 (List.mem_cons_self ..)
  have mem4 : ∀ y ∈ bl', y ∈ bl2 ∨ (w3.alloc (.cells #[.int .i64 x.1, .slice D1 x.2.1.length d1, .slice D2 x.2.2.length d2] 42)).heap.size ≤ y := fun y hy => (hmm y hy).imp id (fun h => by simpa using h)
  have s2E : SO shPut (w5.setCell ⟨w3.heap.size, 2, none⟩ (.slice D (x.2.2.length + 1) d)) w2.heap.size (w5.setCell ⟨w3.heap.size, 2, none⟩ (.slice D (x.2.2.length + 1) d)).heap.size D d (x.2.2 ++ [(a, s)]) bl' := by
    rw [hb5.size]
    exact so5.keep good_Put (fun b hb => hb5.block b (fun e => by
      subst e
      rcases hmm _ hb with h | h
      · exact hB2 h
      · omega))
  have uu4 : Up w (w5.setCell ⟨w3.heap.size, 2, none⟩ (.slice D (x.2.2.length + 1) d)) := uu3.only on4 (fun y hy => by rcases List.mem_cons.1 hy with rfl | hy <;> first | omega | (have := hin2 y hy; omega))
  have s1E : SO shS (w5.setCell ⟨w3.heap.size, 2, none⟩ (.slice D (x.2.2.length + 1) d)) w2.heap.size (w5.setCell ⟨w3.heap.size, 2, none⟩ (.slice D (x.2.2.length + 1) d)).heap.size D1 d1 x.2.1 bl1 := (s1B.keep good_S (fun y hy => on4.block y (by have := hin1 y hy; simp; omega) (fun hm => by
    rcases List.mem_cons.1 hm with e | hm
    · have := hin1 y hy; omega
    · exact hdis y hy hm))).wide good_S (Nat.le_refl _) on4.size
  refine bodyPost_ret (v := .tuple #[.agg #[.int .i64 x.1, .slice D1 x.2.1.length d1, .slice D (x.2.2.length + 1) d], .int .i64 0]) (by simp [results, Try.results24, go_sem, gr4_0, gr4_1, gr4_2]) rfl ?_
  have z1 := (s1E.set good_S (w.heap.size + 1) 0 [.int .i64 x.1, .slice D1 x.2.1.length d1, .slice D (x.2.2.length + 1) d] (by omega)).wide good_S (lo' := w.heap.size) (by omega) (Nat.le_refl _)
  have z2 := (s2E.set good_Put (w.heap.size + 1) 0 [.int .i64 x.1, .slice D1 x.2.1.length d1, .slice D (x.2.2.length + 1) d] (by omega)).wide good_Put (lo' := w.heap.size) (by omega) (Nat.le_refl _)
  have asm := asmDisk (x0 := x.1) b0 z1 z2
  rw [List.length_append] at asm
  have ndE : (bl1 ++ bl').Nodup := by
    rw [List.nodup_append]
    refine ⟨nd1, nd4, fun y hy z hz e => ?_⟩
    subst e
    rcases mem4 y hz with h | h
    · exact hdis y hy h
    · have := hin1 y hy; simp at h; omega
  exact toR_of hd hc ⟨[.int .i64 x.1, .slice D1 x.2.1.length d1, .slice D (x.2.2.length + 1) d], _, rfl, asm, ndE, uu4.sets (g := w.heap.size + 1) (by omega) 0 [.int .i64 x.1, .slice D1 x.2.1.length d1, .slice D (x.2.2.length + 1) d]⟩

set_option maxRecDepth 100000 in
set_option maxHeartbeats 4000000 in
theorem ci_DiskPut (v : Value) (x : TDisk) (a : Int) (s : ByteArray) (w : World) (h : AV shDisk w v x) (hn : shDisk.sz x ≤ 1048576) (ha : I64 a) (hs : s.size ≤ maxLen) (hsn : s.size ≤ 1048576) : Calls Try.prog 25 #[v, .int .i64 a, .string s] w (ToR shDisk (diskPut x a s) (diskPutC x a s) w) := by
  have hv := h
  obtain ⟨cs, rfl, h⟩ := h
  obtain ⟨A1, c1, A2, c2, rfl, b0, b1, b2⟩ := openDisk h
  clear h
  have hl2 := b2.len_le
  have vv0 : Up w ((w.alloc (.cells #[.int .i64 x.1, .slice A1 x.2.1.length c1, .slice A2 x.2.2.length c2] 42)).alloc (.cells #[.int .i64 0, .slice none 0 0, .slice none 0 0] 42)) := ((Up.refl _).alloc _).alloc _
  have ja0 : Bk ((w.alloc (.cells #[.int .i64 x.1, .slice A1 x.2.1.length c1, .slice A2 x.2.2.length c2] 42)).alloc (.cells #[.int .i64 0, .slice none 0 0, .slice none 0 0] 42)) w.heap.size 42 #[.int .i64 x.1, .slice A1 x.2.1.length c1, .slice A2 x.2.2.length c2] := (Bk.new _ _ _).alloc _
  have jr0 : Bk ((w.alloc (.cells #[.int .i64 x.1, .slice A1 x.2.1.length c1, .slice A2 x.2.2.length c2] 42)).alloc (.cells #[.int .i64 0, .slice none 0 0, .slice none 0 0] 42)) (w.heap.size + 1) 42 #[.int .i64 0, .slice none 0 0, .slice none 0 0] := by simpa using Bk.new (w.alloc (.cells #[.int .i64 x.1, .slice A1 x.2.1.length c1, .slice A2 x.2.2.length c2] 42)) 42 #[.int .i64 0, .slice none 0 0, .slice none 0 0]
  obtain ⟨b0l, b0h⟩ := id b0
  go_enter Try.func25, Try.ntmps25
  go_wp2_with fail
  refine (ci_DiskOk _ x _ (hv.up good_Disk vv0) hn).mono ?_
  rintro e w1 ⟨rfl, u1⟩
  have uu1 := vv0.trans u1
  have ka1 := ja0.up u1
  have kr1 := jr0.up u1
  have ga1_0 : w1.cell? ⟨w.heap.size, 0, none⟩ = some (.int .i64 x.1) := ka1.cell 0
  have gr1_0 : w1.cell? ⟨w.heap.size + 1, 0, none⟩ = some (.int .i64 0) := kr1.cell 0
  have fr1_0 := kr1.frozen 0
  have ga1_1 : w1.cell? ⟨w.heap.size, 1, none⟩ = some (.slice A1 x.2.1.length c1) := ka1.cell 1
  have gr1_1 : w1.cell? ⟨w.heap.size + 1, 1, none⟩ = some (.slice none 0 0) := kr1.cell 1
  have fr1_1 := kr1.frozen 1
  have ga1_2 : w1.cell? ⟨w.heap.size, 2, none⟩ = some (.slice A2 x.2.2.length c2) := ka1.cell 2
  have gr1_2 : w1.cell? ⟨w.heap.size + 1, 2, none⟩ = some (.slice none 0 0) := kr1.cell 2
  have fr1_2 := kr1.frozen 2
  cases hok : diskOk x with
  | false =>
    have hc : Hid (diskPutC x a s = 1) := by unfold Hid; simp [diskPutC, hok]
    have hd : Hid (diskPut x a s = (0, [], [])) := by unfold Hid; rw [diskPut, hc.out]; rfl
    go_wp2_with fail
    refine bodyPost_ret (v := .tuple #[.agg #[.int .i64 0, .slice none 0 0, .slice none 0 0], .int .i64 1]) (by simp [results, Try.results25, go_sem, gr1_0, gr1_1, gr1_2]) rfl ?_
    exact toR_of hd hc (zeroR _ _ _ (uu1.sets (g := w.heap.size + 1) (by omega) 0 [.int .i64 0, .slice none 0 0, .slice none 0 0]))
  | true =>
  have hp400 := diskOk_puts hok
  by_cases q0 : (s.size : Int) = x.1
  rotate_left
  · have q0' : ((s.size : Int) != x.1) = true := by simpa using q0
    have hc : Hid (diskPutC x a s = 1) := by unfold Hid; simp [diskPutC, q0]
    have hd : Hid (diskPut x a s = (0, [], [])) := by unfold Hid; rw [diskPut, hc.out]; rfl
    go_wp2_with fail
    refine bodyPost_ret (v := .tuple #[.agg #[.int .i64 0, .slice none 0 0, .slice none 0 0], .int .i64 1]) (by simp [results, Try.results25, go_sem, gr1_0, gr1_1, gr1_2]) rfl ?_
    exact toR_of hd hc (zeroR _ _ _ (uu1.sets (g := w.heap.size + 1) (by omega) 0 [.int .i64 0, .slice none 0 0, .slice none 0 0]))
  have q0' : ((s.size : Int) != x.1) = false := by simpa using q0
  have z1 := kr1.lt
  go_wp2_with fail
  refine (c_has _ x _ _ (hv.up good_Disk uu1)).mono ?_
  rintro e w2 ⟨rfl, u2⟩
  have uu2 := uu1.trans u2
  have ka2 := ka1.up u2
  have kr2 := kr1.up u2
  have z2 := kr2.lt
  clear ga1_0 gr1_0 fr1_0 ga1_1 gr1_1 fr1_1 ga1_2 gr1_2 fr1_2
  have ga2_0 : w2.cell? ⟨w.heap.size, 0, none⟩ = some (.int .i64 x.1) := ka2.cell 0
  have gr2_0 : w2.cell? ⟨w.heap.size + 1, 0, none⟩ = some (.int .i64 0) := kr2.cell 0
  have fr2_0 := kr2.frozen 0
  have ga2_1 : w2.cell? ⟨w.heap.size, 1, none⟩ = some (.slice A1 x.2.1.length c1) := ka2.cell 1
  have gr2_1 : w2.cell? ⟨w.heap.size + 1, 1, none⟩ = some (.slice none 0 0) := kr2.cell 1
  have fr2_1 := kr2.frozen 1
  have ga2_2 : w2.cell? ⟨w.heap.size, 2, none⟩ = some (.slice A2 x.2.2.length c2) := ka2.cell 2
  have gr2_2 : w2.cell? ⟨w.heap.size + 1, 2, none⟩ = some (.slice none 0 0) := kr2.cell 2
  have fr2_2 := kr2.frozen 2
  cases q1 : inB a 0 (x.2.1.length - 1) with
  | false =>
    have hc : Hid (diskPutC x a s = 2) := by unfold Hid; simp [diskPutC, hok, q0, q1]
    have hd : Hid (diskPut x a s = (0, [], [])) := by unfold Hid; rw [diskPut, hc.out]; rfl
    go_wp2_with fail
    refine bodyPost_ret (v := .tuple #[.agg #[.int .i64 0, .slice none 0 0, .slice none 0 0], .int .i64 2]) (by simp [results, Try.results25, go_sem, gr2_0, gr2_1, gr2_2]) rfl ?_
    exact toR_of hd hc (zeroR _ _ _ (uu2.sets (g := w.heap.size + 1) (by omega) 0 [.int .i64 0, .slice none 0 0, .slice none 0 0]))
  | true =>
  by_cases q2 : x.2.2.length = 400
  · have hc : Hid (diskPutC x a s = 4) := by unfold Hid; simp [diskPutC, hok, q0, q1, q2]
    have hd : Hid (diskPut x a s = (0, [], [])) := by unfold Hid; rw [diskPut, hc.out]; rfl
    have q2' : ((x.2.2.length : Int) == 400) = true := by simp [q2]
    have q2'' : (400 : Int) ≤ (x.2.2.length : Int) := by omega
    go_wp2_with fail
    refine bodyPost_ret (v := .tuple #[.agg #[.int .i64 0, .slice none 0 0, .slice none 0 0], .int .i64 4]) (by simp [results, Try.results25, go_sem, gr2_0, gr2_1, gr2_2]) rfl ?_
    exact toR_of hd hc (zeroR _ _ _ (uu2.sets (g := w.heap.size + 1) (by omega) 0 [.int .i64 0, .slice none 0 0, .slice none 0 0]))
  have q2' : ((x.2.2.length : Int) == 400) = false := by simp; omega
  have q2'' : (x.2.2.length : Int) < 400 := by omega
  have hc : Hid (diskPutC x a s = 0) := by unfold Hid; simp [diskPutC, hok, q0, q1, q2]
  have hd : Hid (diskPut x a s = (x.1, x.2.1, x.2.2 ++ [(a, s)])) := by unfold Hid; rw [diskPut, hc.out]; rfl
  go_wp2_with fail
  refine (c_copyDisk _ x _ (hv.up good_Disk uu2) hn).mono ?_
  rintro e w3 ⟨cs3, bl, rfl, o3, nd3, u3⟩
  obtain ⟨D1, d1, bl1, D2, d2, bl2, rfl, rfl, _, s1, s2⟩ := openODisk o3
  have uB := Up.alloc (Up.refl w3) (.cells #[.int .i64 x.1, .slice D1 x.2.1.length d1, .slice D2 x.2.2.length d2] 42)
  have kB := Bk.new w3 42 #[.int .i64 x.1, .slice D1 x.2.1.length d1, .slice D2 x.2.2.length d2]
  have ka3 := (ka2.up u3).up uB
  have kr3 := (kr2.up u3).up uB
  have uu3 := (uu2.trans u3).trans uB
  have zB := u3.size
  have s1B := s1.up good_S uB
  have s2B := s2.up good_Put uB
  have nd1 : bl1.Nodup := (List.nodup_append.1 nd3).1
  have nd2 : bl2.Nodup := (List.nodup_append.1 nd3).2.1
  have hdis : ∀ y ∈ bl1, y ∉ bl2 := fun y hy hy2 => (List.nodup_append.1 nd3).2.2 y hy y hy2 rfl
  have hin1 : ∀ y ∈ bl1, w2.heap.size ≤ y ∧ y < w3.heap.size := s1.in_ good_S
  have hin2 : ∀ y ∈ bl2, w2.heap.size ≤ y ∧ y < w3.heap.size := s2.in_ good_Put
  have hB2 : w3.heap.size ∉ bl2 := fun h => by have := hin2 _ h; omega
  go_wp2_with fail
  refine (c_put w3.heap.size w2.heap.size x.1 x.2.1.length x.2.2 D1 D2 d1 d2 bl2 a s _ kB s2B nd2 hB2 ha hs (by omega) (by simp; omega)).mono ?_
  rintro e w4 ⟨rfl, D, d, bl', kB4, s2E, nd4, mem4, _, on4⟩
  have kr4 := kr3.only on4 (fun hy => by rcases List.mem_cons.1 hy with e | hy <;> first | omega | (have := hin2 _ hy; omega))
  have gB4_0 : w4.cell? ⟨w3.heap.size, 0, none⟩ = some (.int .i64 x.1) := kB4.cell 0
  have gr4_0 : w4.cell? ⟨w.heap.size + 1, 0, none⟩ = some (.int .i64 0) := kr4.cell 0
  have fr4_0 := kr4.frozen 0
  have gB4_1 : w4.cell? ⟨w3.heap.size, 1, none⟩ = some (.slice D1 x.2.1.length d1) := kB4.cell 1
  have gr4_1 : w4.cell? ⟨w.heap.size + 1, 1, none⟩ = some (.slice none 0 0) := kr4.cell 1
  have fr4_1 := kr4.frozen 1
  have gB4_2 : w4.cell? ⟨w3.heap.size, 2, none⟩ = some (.slice D (x.2.2.length + 1) d) := kB4.cell 2
  have gr4_2 : w4.cell? ⟨w.heap.size + 1, 2, none⟩ = some (.slice none 0 0) := kr4.cell 2
  have fr4_2 := kr4.frozen 2
  go_wp2_with fail
  have uu4 : Up w w4 := uu3.only on4 (fun y hy => by rcases List.mem_cons.1 hy with rfl | hy <;> first | omega | (have := hin2 y hy; omega))
  have s1E : SO shS w4 w2.heap.size w4.heap.size D1 d1 x.2.1 bl1 := (s1B.keep good_S (fun y hy => on4.block y (by have := hin1 y hy; simp; omega) (fun hm => by
    rcases List.mem_cons.1 hm with e | hm
    · have := hin1 y hy; omega
    · exact hdis y hy hm))).wide good_S (Nat.le_refl _) on4.size
  refine bodyPost_ret (v := .tuple #[.agg #[.int .i64 x.1, .slice D1 x.2.1.length d1, .slice D (x.2.2.length + 1) d], .int .i64 0]) (by simp [results, Try.results25, go_sem, gr4_0, gr4_1, gr4_2]) rfl ?_
  have z1 := (s1E.set good_S (w.heap.size + 1) 0 [.int .i64 x.1, .slice D1 x.2.1.length d1, .slice D (x.2.2.length + 1) d] (by omega)).wide good_S (lo' := w.heap.size) (by omega) (Nat.le_refl _)
  have z2 := (s2E.set good_Put (w.heap.size + 1) 0 [.int .i64 x.1, .slice D1 x.2.1.length d1, .slice D (x.2.2.length + 1) d] (by omega)).wide good_Put (lo' := w.heap.size) (by omega) (Nat.le_refl _)
  have asm := asmDisk (x0 := x.1) b0 z1 z2
  rw [List.length_append] at asm
  have ndE : (bl1 ++ bl').Nodup := by
    rw [List.nodup_append]
    refine ⟨nd1, nd4, fun y hy z hz e => ?_⟩
    subst e
    rcases mem4 y hz with h | h
    · exact hdis y hy h
    · have := hin1 y hy; simp at h; omega
  exact toR_of hd hc ⟨[.int .i64 x.1, .slice D1 x.2.1.length d1, .slice D (x.2.2.length + 1) d], _, rfl, asm, ndE, uu4.sets (g := w.heap.size + 1) (by omega) 0 [.int .i64 x.1, .slice D1 x.2.1.length d1, .slice D (x.2.2.length + 1) d]⟩

theorem cs_DiskPut (v : Value) (x : TDisk) (a : Int) (s : ByteArray) (w : World) (h : AV shDisk w v x) (hn : shDisk.sz x ≤ 1048576) (ha : I64 a) (hs : s.size ≤ maxLen) (hsn : s.size ≤ 1048576) : Calls Try.prog 24 #[v, .int .i64 a, .string s] w (RpR shDisk (diskPut x a s) (diskPutC x a s) w) := (cs0_DiskPut v x a s w h hn ha hs hsn).mono fun _ _ h => h.rp good_Disk
theorem cbg_DiskPut (x : TDisk) (hn : shDisk.sz x ≤ 1048576) (a : Int) (s : ByteArray) (hs : s.size ≤ 1048576) : (1 : Int) + (mmTDisk.cnt (diskPut x a s) : Nat) ≤ 1000000000 := by
  have h := cnt_Disk x hn
  rw [cntDisk_eq] at h ⊢
  unfold diskPut
  split
  · dsimp only
    rw [List.length_append]
    simp only [List.length_cons, List.length_nil]
    omega
  · decide
end Go.Proofs.Ytafabcabffeikaa
