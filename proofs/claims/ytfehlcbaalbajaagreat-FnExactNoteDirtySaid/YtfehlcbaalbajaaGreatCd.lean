/-
  copyDisk and l17Own: a disk in new memory.
-/
import Derived.Test.YtfehlcbaalbajaaGreatCl
import Derived.Test.YtfehlcbaalbajaaGreatLt
import Derived.Deep.RegionHeld3
namespace Go.Proofs.YtfehlcbaalbajaaGreat
open Go.RowKit
set_option linter.unusedVariables false
set_option linter.unusedSimpArgs false

theorem nodup_two2 {a b : List Nat} {m : Nat} (ha : a.Nodup) (hb : b.Nodup) (h1 : ∀ x ∈ a, x < m) (h2 : ∀ x ∈ b, m ≤ x) : (b ++ a).Nodup := by
  rw [List.nodup_append]
  exact ⟨hb, ha, fun x hx y hy e => by subst e; have := h1 x hy; have := h2 x hx; omega⟩
set_option maxRecDepth 100000 in
set_option maxHeartbeats 4000000 in
theorem c_copyDisk (v : Value) (x : TDisk) (w : World) (h : AV shDisk w v x) (hn : shDisk.sz x ≤ 1048576) : Calls Tryz.prog 68 #[v] w (ToV shDisk x w) := by
  obtain ⟨cs, rfl, h⟩ := h
  obtain ⟨x0, x1, x2⟩ := x
  have ho := openDisk h
  dsimp only at ho
  obtain ⟨A1, c1, A2, c2, rfl, b0, b1, b2⟩ := ho
  have hs : shDisk.sz (x0, x1, x2) = 0 + ((shL shS).sz x1 + ((shL shPut).sz x2)) := rfl
  have hl1 : x1.length ≤ 1048576 := Nat.le_trans (Nat.le_add_right _ _) (show (shL shS).sz x1 ≤ _ by omega)
  have hl2 : x2.length ≤ 1048576 := Nat.le_trans (Nat.le_add_right _ _) (show (shL shPut).sz x2 ≤ _ by omega)
  clear hs hn
  have vv0 : Up w ((w.alloc (.cells #[.int .i64 x0, .slice A1 x1.length c1, .slice A2 x2.length c2] 35)).alloc (.cells #[.int .i64 0, .slice none 0 0, .slice none 0 0] 35)) := ((Up.refl _).alloc _).alloc _
  have ja0 : Bk ((w.alloc (.cells #[.int .i64 x0, .slice A1 x1.length c1, .slice A2 x2.length c2] 35)).alloc (.cells #[.int .i64 0, .slice none 0 0, .slice none 0 0] 35)) w.heap.size 35 #[.int .i64 x0, .slice A1 x1.length c1, .slice A2 x2.length c2] := (Bk.new _ _ _).alloc _
  have jr0 : Bk ((w.alloc (.cells #[.int .i64 x0, .slice A1 x1.length c1, .slice A2 x2.length c2] 35)).alloc (.cells #[.int .i64 0, .slice none 0 0, .slice none 0 0] 35)) (w.heap.size + 1) 35 #[.int .i64 0, .slice none 0 0, .slice none 0 0] := by simpa using (Bk.new (w.alloc (.cells #[.int .i64 x0, .slice A1 x1.length c1, .slice A2 x2.length c2] 35)) 35 #[.int .i64 0, .slice none 0 0, .slice none 0 0])
  have ga0_0 : ((w.alloc (.cells #[.int .i64 x0, .slice A1 x1.length c1, .slice A2 x2.length c2] 35)).alloc (.cells #[.int .i64 0, .slice none 0 0, .slice none 0 0] 35)).drew.cell? ⟨w.heap.size, 0, none⟩ = some (.int .i64 x0) := ja0.drew.cell 0
  have ga0_1 : ((w.alloc (.cells #[.int .i64 x0, .slice A1 x1.length c1, .slice A2 x2.length c2] 35)).alloc (.cells #[.int .i64 0, .slice none 0 0, .slice none 0 0] 35)).drew.cell? ⟨w.heap.size, 1, none⟩ = some (.slice A1 x1.length c1) := ja0.drew.cell 1
  have ga0_2 : ((w.alloc (.cells #[.int .i64 x0, .slice A1 x1.length c1, .slice A2 x2.length c2] 35)).alloc (.cells #[.int .i64 0, .slice none 0 0, .slice none 0 0] 35)).drew.cell? ⟨w.heap.size, 2, none⟩ = some (.slice A2 x2.length c2) := ja0.drew.cell 2
  go_enter Tryz.func68, Tryz.ntmps68
  go_wp2_with fail
  go_region_held3 (fun W => W.cell? ⟨w.heap.size, 0, none⟩ = some (.int .i64 x0) ∧ W.cell? ⟨w.heap.size, 1, none⟩ = some (.slice A1 x1.length c1) ∧ W.cell? ⟨w.heap.size, 2, none⟩ = some (.slice A2 x2.length c2))
    (first | with_reducible exact ⟨ga0_0, ga0_1, ga0_2⟩ | with_reducible exact ⟨ga1_0, ga1_1, ga1_2⟩ | with_reducible exact ⟨ga2_0, ga2_1, ga2_2⟩ | (have q := ((ka1.far (p := ⟨w.heap.size + 1, 0, none⟩) (by dsimp only; omega) (.int .i64 x0)).far (p := ⟨w.heap.size + 1, 1, none⟩) (by dsimp only; omega) (.slice D1 x1.length d1)).far (p := ⟨w.heap.size + 1, 2, none⟩) (by dsimp only; omega) (.slice D2 x2.length d2); have q0 := q.cell 0; have q1 := q.cell 1; have q2 := q.cell 2; simp only [List.getElem?_toArray, List.getElem?_cons_zero, List.getElem?_cons_succ] at q0 q1 q2; with_reducible exact ⟨q0, q1, q2⟩) | (have q := ((ka2.far (p := ⟨w.heap.size + 1, 0, none⟩) (by dsimp only; omega) (.int .i64 x0)).far (p := ⟨w.heap.size + 1, 1, none⟩) (by dsimp only; omega) (.slice D1 x1.length d1)).far (p := ⟨w.heap.size + 1, 2, none⟩) (by dsimp only; omega) (.slice D2 x2.length d2); have q0 := q.cell 0; have q1 := q.cell 1; have q2 := q.cell 2; simp only [List.getElem?_toArray, List.getElem?_cons_zero, List.getElem?_cons_succ] at q0 q1 q2; with_reducible exact ⟨q0, q1, q2⟩))
    (first
      | (go_at_call 93; (with_reducible refine (c_CloneStringS x1 A1 c1 _ (b1.up good_S (by first | exact uu2 | exact vv0.drew)) hl1).mono ?_); rintro e w1 ⟨D1, d1, bl1, rfl, o1, nd1, u1⟩; have uu1 := Up.trans (by first | exact uu2 | exact vv0.drew) u1; have ka1 := Bk.up (by first | exact ka2 | exact ja0.drew) u1; have kr1 := Bk.up (by first | exact kr2 | exact jr0.drew) u1; have ga1_0 : w1.cell? ⟨w.heap.size, 0, none⟩ = some (.int .i64 x0) := ka1.cell 0; have ga1_1 : w1.cell? ⟨w.heap.size, 1, none⟩ = some (.slice A1 x1.length c1) := ka1.cell 1; have ga1_2 : w1.cell? ⟨w.heap.size, 2, none⟩ = some (.slice A2 x2.length c2) := ka1.cell 2; have gr1_0 : w1.cell? ⟨w.heap.size + 1, 0, none⟩ = some (.int .i64 0) := kr1.cell 0; have gr1_1 : w1.cell? ⟨w.heap.size + 1, 1, none⟩ = some (.slice none 0 0) := kr1.cell 1; have gr1_2 : w1.cell? ⟨w.heap.size + 1, 2, none⟩ = some (.slice none 0 0) := kr1.cell 2; have fr1_0 := kr1.frozen 0; have fr1_1 := kr1.frozen 1; have fr1_2 := kr1.frozen 2)
      | (go_at_call 94; (with_reducible refine (c_ClonePutS x2 A2 c2 _ (b2.up good_Put (by first | exact uu1 | exact vv0.drew)) hl2).mono ?_); rintro e w2 ⟨D2, d2, bl2, rfl, o2, nd2, u2⟩; have uu2 := Up.trans (by first | exact uu1 | exact vv0.drew) u2; have ka2 := Bk.up (by first | exact ka1 | exact ja0.drew) u2; have kr2 := Bk.up (by first | exact kr1 | exact jr0.drew) u2; have ga2_0 : w2.cell? ⟨w.heap.size, 0, none⟩ = some (.int .i64 x0) := ka2.cell 0; have ga2_1 : w2.cell? ⟨w.heap.size, 1, none⟩ = some (.slice A1 x1.length c1) := ka2.cell 1; have ga2_2 : w2.cell? ⟨w.heap.size, 2, none⟩ = some (.slice A2 x2.length c2) := ka2.cell 2; have gr2_0 : w2.cell? ⟨w.heap.size + 1, 0, none⟩ = some (.int .i64 0) := kr2.cell 0; have gr2_1 : w2.cell? ⟨w.heap.size + 1, 1, none⟩ = some (.slice none 0 0) := kr2.cell 1; have gr2_2 : w2.cell? ⟨w.heap.size + 1, 2, none⟩ = some (.slice none 0 0) := kr2.cell 2; have fr2_0 := kr2.frozen 0; have fr2_1 := kr2.frozen 1; have fr2_2 := kr2.frozen 2))
  · go_wp2_with fail
    have q1 := o1.up good_S u2
    have hk := kr1.lt
    have z1 := (q1.set good_S (w.heap.size + 1) 0 [.int .i64 x0, .slice D1 x1.length d1, .slice D2 x2.length d2] (by simp)).wide good_S (lo' := w.heap.size) (by simp; omega) (Nat.le_refl _)
    have z2 := (o2.set good_Put (w.heap.size + 1) 0 [.int .i64 x0, .slice D1 x1.length d1, .slice D2 x2.length d2] (by omega)).wide good_Put (lo' := w.heap.size) (by omega) (Nat.le_refl _)
    have fu := uu2.sets (g := w.heap.size + 1) (by omega) 0 [.int .i64 x0, .slice D1 x1.length d1, .slice D2 x2.length d2]
    have nn : (bl1 ++ bl2).Nodup := nodup_two (m := w1.heap.size) nd1 nd2 (fun b hb => (o1.in_ good_S b hb).2) (fun b hb => (o2.in_ good_Put b hb).1)
    refine bodyPost_ret (v := .agg #[.int .i64 x0, .slice D1 x1.length d1, .slice D2 x2.length d2]) (by simp [results, Tryz.results68, go_sem, gr2_0, gr2_1, gr2_2]) rfl ?_
    exact ⟨[.int .i64 x0, .slice D1 x1.length d1, .slice D2 x2.length d2], _, rfl, asmDisk b0 z1 z2, by simpa using nn, fu⟩

theorem cells3 {W : World} {g : Nat} {t : TypeId} {a b c : Value} (h : Bk W g t #[a, b, c]) : W.cell? ⟨g, 0, none⟩ = some a ∧ W.cell? ⟨g, 1, none⟩ = some b ∧ W.cell? ⟨g, 2, none⟩ = some c := ⟨h.cell 0, h.cell 1, h.cell 2⟩
set_option maxRecDepth 100000 in
set_option maxHeartbeats 4000000 in
theorem c_l17Own (v : Value) (x : TDisk) (w : World) (h : AV shDisk w v x) (hn : shDisk.sz x ≤ 1048576) : Calls Tryz.prog 48 #[v] w (ToV shDisk x w) := by
  obtain ⟨cs, rfl, h⟩ := h
  obtain ⟨x0, x1, x2⟩ := x
  have ho := openDisk h
  dsimp only at ho
  obtain ⟨A1, c1, A2, c2, rfl, b0, b1, b2⟩ := ho
  have hs : shDisk.sz (x0, x1, x2) = 0 + ((shL shS).sz x1 + ((shL shPut).sz x2)) := rfl
  have hl1 : x1.length ≤ 1048576 := Nat.le_trans (Nat.le_add_right _ _) (show (shL shS).sz x1 ≤ _ by omega)
  have hl2 : x2.length ≤ 1048576 := Nat.le_trans (Nat.le_add_right _ _) (show (shL shPut).sz x2 ≤ _ by omega)
  clear hs hn
  obtain ⟨i1, hi1, hy0, hy1, hy2⟩ := info_parts cinfo_StringS
  obtain ⟨i2, hi2, hz0, hz1, hz2⟩ := info_parts cinfo_PutS
  have vv0 : Up w ((w.alloc (.cells #[.int .i64 x0, .slice A1 x1.length c1, .slice A2 x2.length c2] 35)).alloc (.cells #[.int .i64 0, .slice none 0 0, .slice none 0 0] 35)) := ((Up.refl _).alloc _).alloc _
  have ja0 : Bk ((w.alloc (.cells #[.int .i64 x0, .slice A1 x1.length c1, .slice A2 x2.length c2] 35)).alloc (.cells #[.int .i64 0, .slice none 0 0, .slice none 0 0] 35)) w.heap.size 35 #[.int .i64 x0, .slice A1 x1.length c1, .slice A2 x2.length c2] := (Bk.new _ _ _).alloc _
  have jr0 : Bk ((w.alloc (.cells #[.int .i64 x0, .slice A1 x1.length c1, .slice A2 x2.length c2] 35)).alloc (.cells #[.int .i64 0, .slice none 0 0, .slice none 0 0] 35)) (w.heap.size + 1) 35 #[.int .i64 0, .slice none 0 0, .slice none 0 0] := by simpa using (Bk.new (w.alloc (.cells #[.int .i64 x0, .slice A1 x1.length c1, .slice A2 x2.length c2] 35)) 35 #[.int .i64 0, .slice none 0 0, .slice none 0 0])
  go_enter Tryz.func48, Tryz.ntmps48
  go_wp2_with fail
  go_region_held3 (fun W => W.cell? ⟨w.heap.size, 0, none⟩ = some (.int .i64 x0) ∧ W.cell? ⟨w.heap.size, 1, none⟩ = some (.slice A1 x1.length c1) ∧ W.cell? ⟨w.heap.size, 2, none⟩ = some (.slice A2 x2.length c2))
    (first | (refine cells3 (t := 35) ?_; repeat (first | with_reducible exact ja0 | with_reducible exact ka1 | with_reducible exact ka2 | with_reducible refine Bk.alloc ?_ _ | with_reducible refine Bk.drew ?_ | (with_reducible refine Bk.far ?_ (by dsimp only; omega) _))))
    (first
      | (refine step_app_new good_S flat_S rfl _ _ _ 9 rfl i1 _ Tryz.underlying22 hi1 hy0 hy1 (by rfl) (by rfl) (by rfl) (b1.up good_S (by repeat (first | with_reducible exact vv0 | with_reducible exact uu1 | with_reducible exact uu2 | with_reducible refine Up.alloc ?_ _ | with_reducible refine Up.drew ?_))) (by rw [hy2]; omega) ?_; intro D1 d1 bl1 w1 o1 nd1 u1
         have uu1 : Up w w1 := Up.trans (by repeat (first | with_reducible exact vv0 | with_reducible exact uu2 | with_reducible refine Up.alloc ?_ _ | with_reducible refine Up.drew ?_)) u1
         have ka1 : Bk w1 w.heap.size 35 #[.int .i64 x0, .slice A1 x1.length c1, .slice A2 x2.length c2] := Bk.up (by repeat (first | with_reducible exact ja0 | with_reducible exact ka2 | with_reducible refine Bk.alloc ?_ _ | with_reducible refine Bk.drew ?_)) u1
         have kr1 : Bk w1 (w.heap.size + 1) 35 #[.int .i64 0, .slice none 0 0, .slice none 0 0] := Bk.up (by repeat (first | with_reducible exact jr0 | with_reducible exact kr2 | with_reducible refine Bk.alloc ?_ _ | with_reducible refine Bk.drew ?_)) u1
         have gr1_0 : w1.cell? ⟨w.heap.size + 1, 0, none⟩ = some (.int .i64 0) := kr1.cell 0; have gr1_1 : w1.cell? ⟨w.heap.size + 1, 1, none⟩ = some (.slice none 0 0) := kr1.cell 1; have gr1_2 : w1.cell? ⟨w.heap.size + 1, 2, none⟩ = some (.slice none 0 0) := kr1.cell 2; have fr1_0 := kr1.frozen 0; have fr1_1 := kr1.frozen 1; have fr1_2 := kr1.frozen 2)
      | (refine step_app_new good_Put flat_Put rfl _ _ _ 99 rfl i2 _ Tryz.underlying33 hi2 hz0 hz1 (by rfl) (by rfl) (by rfl) (b2.up good_Put (by repeat (first | with_reducible exact vv0 | with_reducible exact uu1 | with_reducible exact uu2 | with_reducible refine Up.alloc ?_ _ | with_reducible refine Up.drew ?_))) (by rw [hz2]; omega) ?_; intro D2 d2 bl2 w2 o2 nd2 u2
         have uu2 : Up w w2 := Up.trans (by repeat (first | with_reducible exact vv0 | with_reducible exact uu1 | with_reducible refine Up.alloc ?_ _ | with_reducible refine Up.drew ?_)) u2
         have ka2 : Bk w2 w.heap.size 35 #[.int .i64 x0, .slice A1 x1.length c1, .slice A2 x2.length c2] := Bk.up (by repeat (first | with_reducible exact ja0 | with_reducible exact ka1 | with_reducible refine Bk.alloc ?_ _ | with_reducible refine Bk.drew ?_)) u2
         have kr2 : Bk w2 (w.heap.size + 1) 35 #[.int .i64 0, .slice none 0 0, .slice none 0 0] := Bk.up (by repeat (first | with_reducible exact jr0 | with_reducible exact kr1 | with_reducible refine Bk.alloc ?_ _ | with_reducible refine Bk.drew ?_)) u2
         have gr2_0 : w2.cell? ⟨w.heap.size + 1, 0, none⟩ = some (.int .i64 0) := kr2.cell 0; have gr2_1 : w2.cell? ⟨w.heap.size + 1, 1, none⟩ = some (.slice none 0 0) := kr2.cell 1; have gr2_2 : w2.cell? ⟨w.heap.size + 1, 2, none⟩ = some (.slice none 0 0) := kr2.cell 2; have fr2_0 := kr2.frozen 0; have fr2_1 := kr2.frozen 1; have fr2_2 := kr2.frozen 2))
  all_goals
    go_wp2_with fail
    have t12 : Up w1 w2 := Up.trans (by repeat (first | with_reducible exact Up.refl w1 | with_reducible refine Up.alloc ?_ _ | with_reducible refine Up.drew ?_)) u2
    have p2 := o2.wide good_Put (lo' := w1.heap.size) (by simp) (Nat.le_refl _)
    have q1 := (o1.wide good_S (lo' := w.heap.size + 1 + 1) (by simp) (Nat.le_refl _)).up good_S t12
    have hk := kr1.lt
    have z1 := (q1.set good_S (w.heap.size + 1) 0 [.int .i64 x0, .slice D1 x1.length d1, .slice D2 x2.length d2] (by omega)).wide good_S (lo' := w.heap.size) (by omega) (Nat.le_refl _)
    have z2 := (p2.set good_Put (w.heap.size + 1) 0 [.int .i64 x0, .slice D1 x1.length d1, .slice D2 x2.length d2] (by omega)).wide good_Put (lo' := w.heap.size) (by omega) (Nat.le_refl _)
    have fu := uu2.sets (g := w.heap.size + 1) (by omega) 0 [.int .i64 x0, .slice D1 x1.length d1, .slice D2 x2.length d2]
    have nn : (bl1 ++ bl2).Nodup := nodup_two (m := w1.heap.size) nd1 nd2 (fun b hb => (o1.in_ good_S b hb).2) (fun b hb => (p2.in_ good_Put b hb).1)
    refine bodyPost_ret (v := .agg #[.int .i64 x0, .slice D1 x1.length d1, .slice D2 x2.length d2]) (by simp [results, Tryz.results48, go_sem, gr2_0, gr2_1, gr2_2]) rfl ?_
    exact ⟨[.int .i64 x0, .slice D1 x1.length d1, .slice D2 x2.length d2], _, rfl, asmDisk b0 z1 z2, by simpa using nn, fu⟩
end Go.Proofs.YtfehlcbaalbajaaGreat
