/-
  copyDisk and l17Own: a disk in new memory.
-/
import Derived.Test.YtidfeipilleafaaCl
import Derived.Test.YtidfeipilleafaaLt
import Derived.Deep.RegionHeld3
namespace Go.Proofs.Ytidfeipilleafaa
open Go.RowKit
set_option linter.unusedVariables false
set_option linter.unusedSimpArgs false

theorem nodup_two2 {a b : List Nat} {m : Nat} (ha : a.Nodup) (hb : b.Nodup) (h1 : ∀ x ∈ a, x < m) (h2 : ∀ x ∈ b, m ≤ x) : (b ++ a).Nodup := by
  rw [List.nodup_append]
  exact ⟨hb, ha, fun x hx y hy e => by subst e; have := h1 x hy; have := h2 x hx; omega⟩
set_option maxRecDepth 100000 in
set_option maxHeartbeats 4000000 in
theorem c_copyDisk (v : Value) (x : TDisk) (w : World) (h : AV shDisk w v x) (hn : shDisk.sz x ≤ 1048576) : Calls Try.prog 101 #[v] w (ToV shDisk x w) := by
  obtain ⟨cs, rfl, h⟩ := h
  obtain ⟨x0, x1, x2⟩ := x
  have ho := openDisk h
  dsimp only at ho
  obtain ⟨A1, c1, A2, c2, rfl, b0, b1, b2⟩ := ho
  have hs : shDisk.sz (x0, x1, x2) = 0 + ((shL shS).sz x1 + ((shL shPut).sz x2)) := rfl
  have hl1 : x1.length ≤ 1048576 := Nat.le_trans (Nat.le_add_right _ _) (show (shL shS).sz x1 ≤ _ by omega)
  have hl2 : x2.length ≤ 1048576 := Nat.le_trans (Nat.le_add_right _ _) (show (shL shPut).sz x2 ≤ _ by omega)
  clear hs hn
  have vv0 : Up w ((w.alloc (.cells #[.int .i64 x0, .slice A1 x1.length c1, .slice A2 x2.length c2] 46)).alloc (.cells #[.int .i64 0, .slice none 0 0, .slice none 0 0] 46)) := ((Up.refl _).alloc _).alloc _
  have ja0 : Bk ((w.alloc (.cells #[.int .i64 x0, .slice A1 x1.length c1, .slice A2 x2.length c2] 46)).alloc (.cells #[.int .i64 0, .slice none 0 0, .slice none 0 0] 46)) w.heap.size 46 #[.int .i64 x0, .slice A1 x1.length c1, .slice A2 x2.length c2] := (Bk.new _ _ _).alloc _
  have jr0 : Bk ((w.alloc (.cells #[.int .i64 x0, .slice A1 x1.length c1, .slice A2 x2.length c2] 46)).alloc (.cells #[.int .i64 0, .slice none 0 0, .slice none 0 0] 46)) (w.heap.size + 1) 46 #[.int .i64 0, .slice none 0 0, .slice none 0 0] := by simpa using (Bk.new (w.alloc (.cells #[.int .i64 x0, .slice A1 x1.length c1, .slice A2 x2.length c2] 46)) 46 #[.int .i64 0, .slice none 0 0, .slice none 0 0])
  have ga0_0 : ((w.alloc (.cells #[.int .i64 x0, .slice A1 x1.length c1, .slice A2 x2.length c2] 46)).alloc (.cells #[.int .i64 0, .slice none 0 0, .slice none 0 0] 46)).drew.cell? ⟨w.heap.size, 0, none⟩ = some (.int .i64 x0) := ja0.drew.cell 0
  have ga0_1 : ((w.alloc (.cells #[.int .i64 x0, .slice A1 x1.length c1, .slice A2 x2.length c2] 46)).alloc (.cells #[.int .i64 0, .slice none 0 0, .slice none 0 0] 46)).drew.cell? ⟨w.heap.size, 1, none⟩ = some (.slice A1 x1.length c1) := ja0.drew.cell 1
  have ga0_2 : ((w.alloc (.cells #[.int .i64 x0, .slice A1 x1.length c1, .slice A2 x2.length c2] 46)).alloc (.cells #[.int .i64 0, .slice none 0 0, .slice none 0 0] 46)).drew.cell? ⟨w.heap.size, 2, none⟩ = some (.slice A2 x2.length c2) := ja0.drew.cell 2
  go_enter Try.func101, Try.ntmps101
  go_wp2_with fail
  go_region_held3 (fun W => W.cell? ⟨w.heap.size, 0, none⟩ = some (.int .i64 x0) ∧ W.cell? ⟨w.heap.size, 1, none⟩ = some (.slice A1 x1.length c1) ∧ W.cell? ⟨w.heap.size, 2, none⟩ = some (.slice A2 x2.length c2))
    (first | with_reducible exact ⟨ga0_0, ga0_1, ga0_2⟩ | with_reducible exact ⟨ga1_0, ga1_1, ga1_2⟩ | with_reducible exact ⟨ga2_0, ga2_1, ga2_2⟩ | (have q := ((ka1.far (p := ⟨w.heap.size + 1, 0, none⟩) (by dsimp only; omega) (.int .i64 x0)).far (p := ⟨w.heap.size + 1, 1, none⟩) (by dsimp only; omega) (.slice D1 x1.length d1)).far (p := ⟨w.heap.size + 1, 2, none⟩) (by dsimp only; omega) (.slice D2 x2.length d2); have q0 := q.cell 0; have q1 := q.cell 1; have q2 := q.cell 2; simp only [List.getElem?_toArray, List.getElem?_cons_zero, List.getElem?_cons_succ] at q0 q1 q2; with_reducible exact ⟨q0, q1, q2⟩) | (have q := ((ka2.far (p := ⟨w.heap.size + 1, 0, none⟩) (by dsimp only; omega) (.int .i64 x0)).far (p := ⟨w.heap.size + 1, 1, none⟩) (by dsimp only; omega) (.slice D1 x1.length d1)).far (p := ⟨w.heap.size + 1, 2, none⟩) (by dsimp only; omega) (.slice D2 x2.length d2); have q0 := q.cell 0; have q1 := q.cell 1; have q2 := q.cell 2; simp only [List.getElem?_toArray, List.getElem?_cons_zero, List.getElem?_cons_succ] at q0 q1 q2; with_reducible exact ⟨q0, q1, q2⟩))
    (first
      | (go_at_call 164; (with_reducible refine (c_CloneStringS x1 A1 c1 _ (b1.up good_S (by first | exact uu2 | exact vv0.drew)) hl1).mono ?_); rintro e w1 ⟨D1, d1, bl1, rfl, o1, nd1, u1⟩; have uu1 := Up.trans (by first | exact uu2 | exact vv0.drew) u1; have ka1 := Bk.up (by first | exact ka2 | exact ja0.drew) u1; have kr1 := Bk.up (by first | exact kr2 | exact jr0.drew) u1; have ga1_0 : w1.cell? ⟨w.heap.size, 0, none⟩ = some (.int .i64 x0) := ka1.cell 0; have ga1_1 : w1.cell? ⟨w.heap.size, 1, none⟩ = some (.slice A1 x1.length c1) := ka1.cell 1; have ga1_2 : w1.cell? ⟨w.heap.size, 2, none⟩ = some (.slice A2 x2.length c2) := ka1.cell 2; have gr1_0 : w1.cell? ⟨w.heap.size + 1, 0, none⟩ = some (.int .i64 0) := kr1.cell 0; have gr1_1 : w1.cell? ⟨w.heap.size + 1, 1, none⟩ = some (.slice none 0 0) := kr1.cell 1; have gr1_2 : w1.cell? ⟨w.heap.size + 1, 2, none⟩ = some (.slice none 0 0) := kr1.cell 2; have fr1_0 := kr1.frozen 0; have fr1_1 := kr1.frozen 1; have fr1_2 := kr1.frozen 2)
      | (go_at_call 165; (with_reducible refine (c_ClonePutS x2 A2 c2 _ (b2.up good_Put (by first | exact uu1 | exact vv0.drew)) hl2).mono ?_); rintro e w2 ⟨D2, d2, bl2, rfl, o2, nd2, u2⟩; have uu2 := Up.trans (by first | exact uu1 | exact vv0.drew) u2; have ka2 := Bk.up (by first | exact ka1 | exact ja0.drew) u2; have kr2 := Bk.up (by first | exact kr1 | exact jr0.drew) u2; have ga2_0 : w2.cell? ⟨w.heap.size, 0, none⟩ = some (.int .i64 x0) := ka2.cell 0; have ga2_1 : w2.cell? ⟨w.heap.size, 1, none⟩ = some (.slice A1 x1.length c1) := ka2.cell 1; have ga2_2 : w2.cell? ⟨w.heap.size, 2, none⟩ = some (.slice A2 x2.length c2) := ka2.cell 2; have gr2_0 : w2.cell? ⟨w.heap.size + 1, 0, none⟩ = some (.int .i64 0) := kr2.cell 0; have gr2_1 : w2.cell? ⟨w.heap.size + 1, 1, none⟩ = some (.slice none 0 0) := kr2.cell 1; have gr2_2 : w2.cell? ⟨w.heap.size + 1, 2, none⟩ = some (.slice none 0 0) := kr2.cell 2; have fr2_0 := kr2.frozen 0; have fr2_1 := kr2.frozen 1; have fr2_2 := kr2.frozen 2))
  · go_wp2_with fail
    have q1 := o1.up good_S u2
    have hk := kr1.lt
    have z1 := (q1.set good_S (w.heap.size + 1) 0 [.int .i64 x0, .slice D1 x1.length d1, .slice D2 x2.length d2] (by simp)).wide good_S (lo' := w.heap.size) (by simp; omega) (Nat.le_refl _)
    have z2 := (o2.set good_Put (w.heap.size + 1) 0 [.int .i64 x0, .slice D1 x1.length d1, .slice D2 x2.length d2] (by omega)).wide good_Put (lo' := w.heap.size) (by omega) (Nat.le_refl _)
    have fu := uu2.sets (g := w.heap.size + 1) (by omega) 0 [.int .i64 x0, .slice D1 x1.length d1, .slice D2 x2.length d2]
    have nn : (bl1 ++ bl2).Nodup := nodup_two (m := w1.heap.size) nd1 nd2 (fun b hb => (o1.in_ good_S b hb).2) (fun b hb => (o2.in_ good_Put b hb).1)
    refine bodyPost_ret (v := .agg #[.int .i64 x0, .slice D1 x1.length d1, .slice D2 x2.length d2]) (by simp [results, Try.results101, go_sem, gr2_0, gr2_1, gr2_2]) rfl ?_
    exact ⟨[.int .i64 x0, .slice D1 x1.length d1, .slice D2 x2.length d2], _, rfl, asmDisk b0 z1 z2, by simpa using nn, fu⟩

theorem cells3 {W : World} {g : Nat} {t : TypeId} {a b c : Value} (h : Bk W g t #[a, b, c]) : W.cell? ⟨g, 0, none⟩ = some a ∧ W.cell? ⟨g, 1, none⟩ = some b ∧ W.cell? ⟨g, 2, none⟩ = some c := ⟨h.cell 0, h.cell 1, h.cell 2⟩
end Go.Proofs.Ytidfeipilleafaa
