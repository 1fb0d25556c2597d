/-
  The flush of a disk: each write put into its sector.
-/
import Derived.Test.YtidfeipilleafaaCd
import Derived.Test.YtidfeipilleafaaDk
import Derived.Test.YtidfeipilleafaaRep3
namespace Go.Proofs.Ytidfeipilleafaa
open Go.RowKit
set_option linter.unusedVariables false
set_option linter.unusedSimpArgs false

theorem Bk.but {w w' : World} {g g' : Nat} {t : TypeId} {C : Array Value} (h : Bk w g t C) (k : But g' w w') (hg : g ≠ g') : Bk w' g t C := (k.block g hg).trans h
theorem cell_far {w : World} {p a : Addr} (u : Value) (h : a.block ≠ p.block) : (w.setCell p u).cell? a = w.cell? a := World.cell?_of_block (Below.heap_setCell _ _ _ _ h)
def flushS (l : List ByteArray) (ps : List TPut) : List ByteArray := ps.foldl (fun l p => l.set p.1.toNat p.2) l
theorem flushS_len (ps : List TPut) : ∀ l : List ByteArray, (flushS l ps).length = l.length := by
  induction ps with
  | nil => intro l; rfl
  | cons p ps ih => intro l; show (flushS (l.set p.1.toNat p.2) ps).length = _; rw [ih]; simp
theorem flushS_take (l : List ByteArray) (ps : List TPut) (k : Nat) (h : k < ps.length) : flushS l (ps.take (k + 1)) = (flushS l (ps.take k)).set ps[k].1.toNat ps[k].2 := by
  unfold flushS
  rw [List.take_succ_eq_append_getElem h, List.foldl_append]
  rfl

/-- A sector of an owned row set anew. -/
theorem SO.setS {w : World} {lo hi : Nat} {A : Option Addr} {c : Nat} {xs : List ByteArray} {bl : List Nat} (h : SO shS w lo hi A c xs bl) (nd : bl.Nodup) {m : Nat} (hm : m < xs.length) :
    ∃ (g off : Nat) (o : Value), A = some ⟨g, off, none⟩ ∧ g ∈ bl ∧ lo ≤ g ∧ g < hi ∧ g < w.heap.size ∧ w.cell? ⟨g, off + m, none⟩ = some o ∧ w.frozen? ⟨g, off + m, none⟩ = false ∧
      ∀ s : ByteArray, s.size ≤ maxLen → SO shS (w.setCell ⟨g, off + m, none⟩ (.string s)) lo hi A c (xs.set m s) bl := by
  obtain ⟨g, off, C, t, b, cs, hA, h1, h2, hbk, hl, hc, ho, hgb, hgn, _, _, hput⟩ := h.focus good_S nd (List.getElem?_eq_getElem hm)
  obtain ⟨⟨rfl, hsz⟩, rfl⟩ := ho
  have h0 : C[off + m]? = some (.string xs[m]) := by have := hc 0 (by decide); simpa [shS] using this
  refine ⟨g, off, .string xs[m], hA, hgb, h1, h2, hbk.lt, (hbk.cell _).trans h0, hbk.frozen _, fun s hs => ?_⟩
  refine hput _ (C.setIfInBounds (off + m) (.string s)) [.string s] s (hbk.set _ _) (fun j hj => ?_) (fun p hp => ?_) ⟨⟨rfl, hs⟩, rfl⟩ (fun y _ hy _ => Below.heap_setCell _ _ _ _ hy)
  · obtain rfl : j = 0 := by have : j < 1 := hj; omega
    exact set_same (by simp [shS]) h0
  · exact set_ne (by simp only [shS] at hp; omega)

theorem cells12 {W : World} {g h : Nat} {t t' : TypeId} {a b c p q : Value} (k : Bk W g t #[a, b, c]) (k' : Bk W h t' #[p, q]) : W.cell? ⟨g, 1, none⟩ = some b ∧ W.cell? ⟨h, 0, none⟩ = some p ∧ W.cell? ⟨h, 1, none⟩ = some q := ⟨k.cell 1, k'.cell 0, k'.cell 1⟩
theorem cells12G {W : World} {g h o : Nat} {t t' : TypeId} {C : Array Value} {b p q : Value} (hC : C[o + 1]? = some b) (k : Bk W g t C) (k' : Bk W h t' #[p, q]) : W.cell? ⟨g, o + 1, none⟩ = some b ∧ W.cell? ⟨h, 0, none⟩ = some p ∧ W.cell? ⟨h, 1, none⟩ = some q := ⟨(k.cell _).trans hC, k'.cell 0, k'.cell 1⟩
set_option maxRecDepth 100000 in
set_option maxHeartbeats 4000000 in
theorem c_flush (B oB lo : Nat) (tB : TypeId) (CB : Array Value) (x1 : List ByteArray) (x2 : List TPut) (D1 D2 : Option Addr) (d1 d2 : Nat) (bl1 bl2 : List Nat) (w : World)
    (hB : Bk w B tB CB) (hC1 : CB[oB + 1]? = some (.slice D1 x1.length d1)) (hC2 : CB[oB + 2]? = some (.slice D2 x2.length d2)) (h1 : SO shS w lo w.heap.size D1 d1 x1 bl1) (h2 : SO shPut w lo w.heap.size D2 d2 x2 bl2) (nd : (bl1 ++ bl2).Nodup) (hBn : B ∉ bl1)
    (hp : ∀ p ∈ x2, 0 ≤ p.1 ∧ p.1 < x1.length) :
    Calls Try.prog 137 #[.pointer (some ⟨B, oB, none⟩)] w fun e w' => e = .returned (.tuple #[]) ∧ Bk w' B tB (CB.setIfInBounds (oB + 2) (.slice none 0 0)) ∧ SO shS w' lo w'.heap.size D1 d1 (flushS x1 x2) bl1 ∧ Only (B :: bl1) w w' := by
  have hl2 := (h2.rep good_Put).len_le
  have c0 : w.cell? ⟨B, oB + 2, none⟩ = some (.slice D2 x2.length d2) := (hB.cell _).trans hC2
  go_enter Try.func137, Try.ntmps137
  go_wp2_with fail
  go_loopw [9] (fun i wr => ∃ (k : Nat), k ≤ x2.length ∧ i = .int .i64 k ∧ Bk wr B tB CB ∧ SO shS wr lo wr.heap.size D1 d1 (flushS x1 (x2.take k)) bl1 ∧ SO shPut wr lo wr.heap.size D2 d2 x2 bl2 ∧ Only (B :: bl1) w wr) (fun i _ => x2.length - (intOf i).toNat)
  case atStart => exact ⟨0, Nat.zero_le _, rfl, hB, h1, h2, Only.refl _ _⟩
  case round =>
    obtain ⟨k, hk, rfl, hBr, hs1, hs2, hon⟩ := hrel
    have nd1 : bl1.Nodup := (List.nodup_append.1 nd).1
    have hdis : ∀ y ∈ bl1, y ∉ bl2 := fun y hy hy2 => (List.nodup_append.1 nd).2.2 y hy y hy2 rfl
    have hin1 := hs1.in_ good_S
    by_cases hlt : k < x2.length
    · obtain ⟨g2, off2, rfl, _, hg2, hc0, hc1, b0, b1, _⟩ := atPut (hs2.rep good_Put) hlt
      obtain ⟨p0, p1⟩ := hp x2[k] (List.getElem_mem hlt)
      obtain ⟨m, hm⟩ : ∃ m : Nat, x2[k].1 = (m : Int) := ⟨x2[k].1.toNat, by omega⟩
      have hmx : m < x1.length := by omega
      have hmk : m < (flushS x1 (x2.take k)).length := by rw [flushS_len]; exact hmx
      obtain ⟨g, off, o, rfl, hgb, hg1, _, hg3, hgc, hgf, hset⟩ := hs1.setS nd1 hmk
      rw [hm] at hc0
      have hl1 := (hs1.rep good_S).len_le
      rw [flushS_len] at hl1
      have hBl := hBr.lt
      have hx : flushS x1 (x2.take (k + 1)) = (flushS x1 (x2.take k)).set m x2[k].2 := by rw [flushS_take _ _ _ hlt, hm]; rfl
      have cb : (wr.alloc (.cells #[.int .i64 m, .string x2[k].2] 142)).cell? ⟨B, oB + 1, none⟩ = some (.slice (some ⟨g, off, none⟩) x1.length d1) := ((hBr.alloc _).cell _).trans hC1
      have gc : (wr.alloc (.cells #[.int .i64 m, .string x2[k].2] 142)).cell? ⟨g, off + m, none⟩ = some o := by rw [World.cell?_of_block (w := wr) (Below.heap_alloc wr _ g hg3)]; exact hgc
      have hBg : B ≠ g := fun e => hBn (e ▸ hgb)
      have hBv := hBr.alloc (.cells #[.int .i64 m, .string x2[k].2] 142)
      have hq := Bk.new wr 142 #[.int .i64 m, .string x2[k].2]
      have gf : (wr.alloc (.cells #[.int .i64 m, .string x2[k].2] 142)).frozen? ⟨g, off + m, none⟩ = false := by rw [World.frozen?_of_block (w := wr) (Below.heap_alloc wr _ g hg3)]; exact hgf
      have hsz : (wr.setCell ⟨g, off + m, none⟩ (.string x2[k].2)).heap.size = wr.heap.size := by simp [World.setCell]
      have hq2 : Bk ((wr.setCell ⟨g, off + m, none⟩ (.string x2[k].2)).alloc (.cells #[.int .i64 m, .string x2[k].2] 142)) wr.heap.size 142 #[.int .i64 m, .string x2[k].2] := by have := Bk.new (wr.setCell ⟨g, off + m, none⟩ (.string x2[k].2)) 142 #[.int .i64 m, .string x2[k].2]; rw [hsz] at this; exact this
      have hm0 : (0 : Int) ≤ (m : Int) := by omega
      have hm1 : (m : Int) < (x1.length : Int) := by omega
      go_wp2_with fail
      go_region_held3 (fun W => W.cell? ⟨B, oB + 1, none⟩ = some (.slice (some ⟨g, off, none⟩) x1.length d1) ∧ W.cell? ⟨wr.heap.size, 0, none⟩ = some (.int .i64 m) ∧ W.cell? ⟨wr.heap.size, 1, none⟩ = some (.string x2[k].2))
        (first | (refine cells12G (t := tB) (t' := 142) (C := CB) hC1 ?_ ?_ <;> repeat (first | with_reducible exact hBv | with_reducible exact hq | with_reducible exact hq2 | with_reducible exact hBr | with_reducible refine Bk.drew ?_ | with_reducible refine Bk.alloc ?_ _ | with_reducible refine Bk.far ?_ (by dsimp only; omega) _)))
        (first | fail)
      go_wp2_with fail
      go_roundw
      case rel =>
        have hso := hset x2[k].2 b1
        rw [← hx] at hso
        have hu : Up (wr.setCell ⟨g, off + m, none⟩ (.string x2[k].2)) ((wr.setCell ⟨g, off + m, none⟩ (.string x2[k].2)).alloc (.cells #[.int .i64 m, .string x2[k].2] 142)).drew := ((Up.refl _).alloc _).drew
        have hso' : SO shS (wr.setCell ⟨g, off + m, none⟩ (.string x2[k].2)) lo (wr.setCell ⟨g, off + m, none⟩ (.string x2[k].2)).heap.size (some ⟨g, off, none⟩) d1 (flushS x1 (x2.take (k + 1))) bl1 := by rw [hsz]; exact hso
        have hs2' : SO shPut (wr.setCell ⟨g, off + m, none⟩ (.string x2[k].2)) lo (wr.setCell ⟨g, off + m, none⟩ (.string x2[k].2)).heap.size (some ⟨g2, off2, none⟩) d2 x2 bl2 := by rw [hsz]; exact hs2.keep good_Put (fun b hb => Below.heap_setCell _ _ _ _ (fun e => hdis g hgb (by have e' : b = g := e; rw [← e']; exact hb)))
        exact ⟨k + 1, by omega, by go_num, (hBr.far (p := ⟨g, off + m, none⟩) (by dsimp only; omega) _).up hu, hso'.up good_S hu, hs2'.up good_Put hu, (hon.but (But.set wr g (off + m) _) (List.mem_cons_of_mem _ hgb)).up hu⟩
      case measure => simp [intOf]; omega
    · obtain rfl : k = x2.length := by omega
      rw [List.take_length] at hs1
      have c2 : wr.cell? ⟨B, oB + 2, none⟩ = some (.slice D2 x2.length d2) := (hBr.cell _).trans hC2
      have f2 := hBr.frozen (oB + 2)
      have hBl := hBr.lt
      go_wp2_with fail
      refine bodyPost_end (v := .tuple #[]) (by simp [results, Try.results137, go_sem]) (by rfl) ?_
      have hb2 := But.set wr B (oB + 2) (.slice none 0 0)
      refine ⟨rfl, hBr.set (oB + 2) _, ?_, hon.but hb2 (List.mem_cons_self ..)⟩
      rw [hb2.size]
      exact hs1.keep good_S (fun b hb => hb2.block b (fun e => hBn (e ▸ hb)))

set_option maxRecDepth 100000 in
set_option maxHeartbeats 4000000 in
theorem c_l17Flush (v : Value) (x : TDisk) (w : World) (h : AV shDisk w v x) (hn : shDisk.sz x ≤ 1048576) (hp : ∀ p ∈ x.2.2, 0 ≤ p.1 ∧ p.1 < x.2.1.length) : Calls Try.prog 59 #[v] w (ToV shDisk (x.1, flushS x.2.1 x.2.2, []) w) := by
  obtain ⟨cs, rfl, h⟩ := h
  obtain ⟨x0, x1, x2⟩ := x
  have ho := openDisk h
  dsimp only at ho hp
  obtain ⟨A1, c1, A2, c2, rfl, b0, b1, b2⟩ := ho
  have hs : shDisk.sz (x0, x1, x2) = 0 + ((shL shS).sz x1 + ((shL shPut).sz x2)) := rfl
  have hl1 : x1.length ≤ 1048576 := Nat.le_trans (Nat.le_add_right _ _) (show (shL shS).sz x1 ≤ _ by omega)
  have hl2 := b2.len_le
  clear hs hn
  obtain ⟨i1, hi1, hy0, hy1, hy2⟩ := info_parts cinfo_StringS
  have vv0 : Up w ((w.alloc (.cells #[.int .i64 x0, .slice A1 x1.length c1, .slice A2 x2.length c2] 46)).alloc (.cells #[.int .i64 0, .slice none 0 0, .slice none 0 0] 46)) := ((Up.refl _).alloc _).alloc _
  have ja0 : Bk ((w.alloc (.cells #[.int .i64 x0, .slice A1 x1.length c1, .slice A2 x2.length c2] 46)).alloc (.cells #[.int .i64 0, .slice none 0 0, .slice none 0 0] 46)) w.heap.size 46 #[.int .i64 x0, .slice A1 x1.length c1, .slice A2 x2.length c2] := (Bk.new _ _ _).alloc _
  have jr0 : Bk ((w.alloc (.cells #[.int .i64 x0, .slice A1 x1.length c1, .slice A2 x2.length c2] 46)).alloc (.cells #[.int .i64 0, .slice none 0 0, .slice none 0 0] 46)) (w.heap.size + 1) 46 #[.int .i64 0, .slice none 0 0, .slice none 0 0] := by simpa using (Bk.new (w.alloc (.cells #[.int .i64 x0, .slice A1 x1.length c1, .slice A2 x2.length c2] 46)) 46 #[.int .i64 0, .slice none 0 0, .slice none 0 0])
  have jb2 : Bk ((((w.alloc (.cells #[.int .i64 x0, .slice A1 x1.length c1, .slice A2 x2.length c2] 46)).alloc (.cells #[.int .i64 0, .slice none 0 0, .slice none 0 0] 46)).alloc (.cells #[.int .i64 0, .slice none 0 0, .slice none 0 0] 46)).alloc (.cells #[] 9)).drew (w.heap.size + 1 + 1) 46 #[.int .i64 0, .slice none 0 0, .slice none 0 0] := by simpa using ((Bk.new ((w.alloc (.cells #[.int .i64 x0, .slice A1 x1.length c1, .slice A2 x2.length c2] 46)).alloc (.cells #[.int .i64 0, .slice none 0 0, .slice none 0 0] 46)) 46 #[.int .i64 0, .slice none 0 0, .slice none 0 0]).alloc (.cells #[] 9)).drew
  have jb3 : Bk ((((w.alloc (.cells #[.int .i64 x0, .slice A1 x1.length c1, .slice A2 x2.length c2] 46)).alloc (.cells #[.int .i64 0, .slice none 0 0, .slice none 0 0] 46)).alloc (.cells #[] 9)).alloc (.cells #[.int .i64 0, .slice none 0 0, .slice none 0 0] 46)).drew (w.heap.size + 1 + 1 + 1) 46 #[.int .i64 0, .slice none 0 0, .slice none 0 0] := by simpa using (Bk.new (((w.alloc (.cells #[.int .i64 x0, .slice A1 x1.length c1, .slice A2 x2.length c2] 46)).alloc (.cells #[.int .i64 0, .slice none 0 0, .slice none 0 0] 46)).alloc (.cells #[] 9)) 46 #[.int .i64 0, .slice none 0 0, .slice none 0 0]).drew
  go_enter Try.func59, Try.ntmps59
  go_wp2_with fail
  go_region_held3 (fun W => W.cell? ⟨w.heap.size, 0, none⟩ = some (.int .i64 x0) ∧ W.cell? ⟨w.heap.size, 1, none⟩ = some (.slice A1 x1.length c1) ∧ W.cell? ⟨w.heap.size, 2, none⟩ = some (.slice A2 x2.length c2))
    (first | (refine cells3 (t := 46) ?_; repeat (first | with_reducible exact ja0 | with_reducible exact ka1 | with_reducible refine Bk.alloc ?_ _ | with_reducible refine Bk.drew ?_ | (with_reducible refine Bk.far ?_ (by dsimp only; omega) _))))
    (first
      | (refine step_app_new good_S flat_S rfl _ _ _ 9 rfl i1 _ Try.underlying25 hi1 hy0 hy1 (by rfl) (by rfl) (by rfl) (b1.up good_S (by repeat (first | with_reducible exact vv0 | with_reducible refine Up.alloc ?_ _ | with_reducible refine Up.drew ?_))) (by rw [hy2]; omega) ?_; intro D1 d1 bl1 w1 o1 nd1 u1
         have uu1 : Up w w1 := Up.trans (by repeat (first | with_reducible exact vv0 | with_reducible refine Up.alloc ?_ _ | with_reducible refine Up.drew ?_)) u1
         have ka1 : Bk w1 w.heap.size 46 #[.int .i64 x0, .slice A1 x1.length c1, .slice A2 x2.length c2] := Bk.up (by repeat (first | with_reducible exact ja0 | with_reducible refine Bk.alloc ?_ _ | with_reducible refine Bk.drew ?_)) u1
         have kr1 : Bk w1 (w.heap.size + 1) 46 #[.int .i64 0, .slice none 0 0, .slice none 0 0] := Bk.up (by repeat (first | with_reducible exact jr0 | with_reducible refine Bk.alloc ?_ _ | with_reducible refine Bk.drew ?_)) u1
         first | ((with_reducible have kb1 := Bk.up jb2 u1); have gb0 : w1.cell? ⟨w.heap.size + 1 + 1, 0, none⟩ = some (.int .i64 0) := kb1.cell 0; have gb1 : w1.cell? ⟨w.heap.size + 1 + 1, 1, none⟩ = some (.slice none 0 0) := kb1.cell 1; have gb2 : w1.cell? ⟨w.heap.size + 1 + 1, 2, none⟩ = some (.slice none 0 0) := kb1.cell 2; have fb0 := kb1.frozen 0; have fb1 := kb1.frozen 1; have fb2 := kb1.frozen 2) | ((with_reducible have kb1 := Bk.up jb3 u1); have gb0 : w1.cell? ⟨w.heap.size + 1 + 1 + 1, 0, none⟩ = some (.int .i64 0) := kb1.cell 0; have gb1 : w1.cell? ⟨w.heap.size + 1 + 1 + 1, 1, none⟩ = some (.slice none 0 0) := kb1.cell 1; have gb2 : w1.cell? ⟨w.heap.size + 1 + 1 + 1, 2, none⟩ = some (.slice none 0 0) := kb1.cell 2; have fb0 := kb1.frozen 0; have fb1 := kb1.frozen 1; have fb2 := kb1.frozen 2) | skip))
  · have kA := ka1.alloc (.cells #[.int .i64 x0, .slice D1 x1.length d1, .slice none 0 0] 46)
    have kR := kr1.alloc (.cells #[.int .i64 x0, .slice D1 x1.length d1, .slice none 0 0] 46)
    have kB := Bk.new w1 46 #[.int .i64 x0, .slice D1 x1.length d1, .slice none 0 0]
    have uW := uu1.alloc (.cells #[.int .i64 x0, .slice D1 x1.length d1, .slice none 0 0] 46)
    have oS := (o1.wide good_S (lo' := w.heap.size + 1 + 1) (by simp) (Nat.le_refl _)).up good_S ((Up.refl w1).alloc (.cells #[.int .i64 x0, .slice D1 x1.length d1, .slice none 0 0] 46))
    have hBn : w1.heap.size ∉ bl1 := fun h => by have := (o1.in_ good_S _ h).2; omega
    have hBlo : w.heap.size + 1 < w1.heap.size := kr1.lt
    go_wp2_with fail
    go_loopw [4] (fun i wr => ∃ (k : Nat), k ≤ x2.length ∧ i = .int .i64 k ∧ Bk wr w.heap.size 46 #[.int .i64 x0, .slice A1 x1.length c1, .slice A2 x2.length c2] ∧ Bk wr (w.heap.size + 1) 46 #[.int .i64 0, .slice none 0 0, .slice none 0 0] ∧ Bk wr (w1.heap.size) 46 #[.int .i64 x0, .slice D1 x1.length d1, .slice none 0 0] ∧ SO shS wr (w.heap.size + 1 + 1) wr.heap.size D1 d1 (flushS x1 (x2.take k)) bl1 ∧ Up w wr) (fun i _ => x2.length - (intOf i).toNat)
    case atStart => exact ⟨0, Nat.zero_le _, rfl, kA, kR, kB, oS, uW⟩
    case round =>
      obtain ⟨k, hk, rfl, kAr, kRr, kBr, hs1, hu⟩ := hrel
      have ca2 : wr.cell? ⟨w.heap.size, 2, none⟩ = some (.slice A2 x2.length c2) := kAr.cell 2
      have hin1 := hs1.in_ good_S
      by_cases hlt : k < x2.length
      · obtain ⟨g2, off2, rfl, _, hg2, hc0, hc1, q0, q1, _⟩ := atPut b2 hlt
        replace hc0 := (hu.cell hg2).trans hc0
        replace hc1 := (hu.cell hg2).trans hc1
        obtain ⟨p0, p1⟩ := hp x2[k] (List.getElem_mem hlt)
        obtain ⟨m, hm⟩ : ∃ m : Nat, x2[k].1 = (m : Int) := ⟨x2[k].1.toNat, by omega⟩
        have hmk : m < (flushS x1 (x2.take k)).length := by rw [flushS_len]; omega
        obtain ⟨g, off, o, rfl, hgb, hg1, _, hg3, hgc, hgf, hset⟩ := hs1.setS nd1 hmk
        rw [hm] at hc0
        have hx : flushS x1 (x2.take (k + 1)) = (flushS x1 (x2.take k)).set m x2[k].2 := by rw [flushS_take _ _ _ hlt, hm]; rfl
        have hBg : w1.heap.size ≠ g := fun e => hBn (e ▸ hgb)
        have hm0 : (0 : Int) ≤ (m : Int) := by omega
        have hm1 : (m : Int) < (x1.length : Int) := by omega
        have cb1 : wr.cell? ⟨w1.heap.size, 1, none⟩ = some (.slice (some ⟨g, off, none⟩) x1.length d1) := kBr.cell 1
        have e0 : wr.drew.cell? ⟨w1.heap.size, 1, none⟩ = some (.slice (some ⟨g, off, none⟩) x1.length d1) := cb1
        have e1 : wr.drew.cell? ⟨w.heap.size, 2, none⟩ = some (.slice (some ⟨g2, off2, none⟩) x2.length c2) := ca2
        have e2 : wr.drew.cell? ⟨g2, off2 + k * 2, none⟩ = some (.int .i64 m) := hc0
        have e3 : wr.drew.cell? ⟨g2, off2 + k * 2 + 1, none⟩ = some (.string x2[k].2) := hc1
        have z0 := (cell_far (w := wr) (p := ⟨g, off + m, none⟩) (.string x2[k].2) (a := ⟨w1.heap.size, 1, none⟩) (by dsimp only; omega)).trans cb1
        have z1 := (cell_far (w := wr) (p := ⟨g, off + m, none⟩) (.string x2[k].2) (a := ⟨w.heap.size, 2, none⟩) (by dsimp only; omega)).trans ca2
        have z2 := (cell_far (w := wr) (p := ⟨g, off + m, none⟩) (.string x2[k].2) (a := ⟨g2, off2 + k * 2, none⟩) (by dsimp only; omega)).trans hc0
        have z3 := (cell_far (w := wr) (p := ⟨g, off + m, none⟩) (.string x2[k].2) (a := ⟨g2, off2 + k * 2 + 1, none⟩) (by dsimp only; omega)).trans hc1
        go_wp2_with fail
        go_region_held3 (fun W => W.cell? ⟨w1.heap.size, 1, none⟩ = some (.slice (some ⟨g, off, none⟩) x1.length d1) ∧ W.cell? ⟨w.heap.size, 2, none⟩ = some (.slice (some ⟨g2, off2, none⟩) x2.length c2) ∧ W.cell? ⟨g2, off2 + k * 2, none⟩ = some (.int .i64 m) ∧ W.cell? ⟨g2, off2 + k * 2 + 1, none⟩ = some (.string x2[k].2))
          (first | with_reducible exact ⟨e0, e1, e2, e3⟩ | exact ⟨z0, z1, z2, z3⟩)
          (first | fail)
        go_wp2_with fail
        go_roundw
        case rel =>
          have hso := hset x2[k].2 q1
          rw [← hx] at hso
          have hsz : (wr.setCell ⟨g, off + m, none⟩ (.string x2[k].2)).heap.size = wr.heap.size := by simp [World.setCell]
          have hso' : SO shS (wr.setCell ⟨g, off + m, none⟩ (.string x2[k].2)) (w.heap.size + 1 + 1) (wr.setCell ⟨g, off + m, none⟩ (.string x2[k].2)).heap.size (some ⟨g, off, none⟩) d1 (flushS x1 (x2.take (k + 1))) bl1 := by rw [hsz]; exact hso
          exact ⟨k + 1, by omega, by go_num, (kAr.far (p := ⟨g, off + m, none⟩) (by dsimp only; omega) _).drew, (kRr.far (p := ⟨g, off + m, none⟩) (by dsimp only; omega) _).drew, (kBr.far (p := ⟨g, off + m, none⟩) (by dsimp only; omega) _).drew, hso'.up good_S (Up.refl _).drew, (hu.setCell (p := ⟨g, off + m, none⟩) (by dsimp only; omega) _).drew⟩
        case measure => simp [intOf]; omega
      · obtain rfl : k = x2.length := by omega
        rw [List.take_length] at hs1
        have cb0 : wr.cell? ⟨w1.heap.size, 0, none⟩ = some (.int .i64 x0) := kBr.cell 0
        have cb1 : wr.cell? ⟨w1.heap.size, 1, none⟩ = some (.slice D1 x1.length d1) := kBr.cell 1
        have cb2 : wr.cell? ⟨w1.heap.size, 2, none⟩ = some (.slice none 0 0) := kBr.cell 2
        have cr0 : wr.cell? ⟨w.heap.size + 1, 0, none⟩ = some (.int .i64 0) := kRr.cell 0
        have cr1 : wr.cell? ⟨w.heap.size + 1, 1, none⟩ = some (.slice none 0 0) := kRr.cell 1
        have cr2 : wr.cell? ⟨w.heap.size + 1, 2, none⟩ = some (.slice none 0 0) := kRr.cell 2
        have fr0 := kRr.frozen 0
        have fr1 := kRr.frozen 1
        have fr2 := kRr.frozen 2
        go_wp2_with fail
        refine bodyPost_ret (v := .agg #[.int .i64 x0, .slice D1 x1.length d1, .slice none 0 0]) (by simp [results, Try.results59, go_sem, cr0, cr1, cr2]) rfl ?_
        have hlen : (flushS x1 x2).length = x1.length := flushS_len _ _
        have zz := (hs1.set good_S (w.heap.size + 1) 0 [.int .i64 x0, .slice D1 x1.length d1, .slice none 0 0] (by omega)).wide good_S (lo' := w.heap.size) (by omega) (Nat.le_refl _)
        have asm := asmDisk (x0 := x0) (x2 := []) b0 zz (SO.nil _ _ _)
        rw [hlen] at asm
        exact ⟨[.int .i64 x0, .slice D1 x1.length d1, .slice none 0 0], _, rfl, asm, by simpa using nd1, hu.sets (g := w.heap.size + 1) (by omega) 0 [.int .i64 x0, .slice D1 x1.length d1, .slice none 0 0]⟩
  · have kA := ka1.but (But.sets (g := w.heap.size + 1 + 1 + 1) [.int .i64 x0, .slice D1 x1.length d1, .slice none 0 0] w1 0) (by omega)
    have kR := kr1.but (But.sets (g := w.heap.size + 1 + 1 + 1) [.int .i64 x0, .slice D1 x1.length d1, .slice none 0 0] w1 0) (by omega)
    have kB : Bk (setCells w1 (w.heap.size + 1 + 1 + 1) 0 [.int .i64 x0, .slice D1 x1.length d1, .slice none 0 0]) (w.heap.size + 1 + 1 + 1) 46 #[.int .i64 x0, .slice D1 x1.length d1, .slice none 0 0] := Bk.sets [.int .i64 x0, .slice D1 x1.length d1, .slice none 0 0] kb1 0
    have uW := uu1.sets (g := w.heap.size + 1 + 1 + 1) (by omega) 0 [.int .i64 x0, .slice D1 x1.length d1, .slice none 0 0]
    have oS := (o1.set good_S (w.heap.size + 1 + 1 + 1) 0 [.int .i64 x0, .slice D1 x1.length d1, .slice none 0 0] (by simp)).wide good_S (lo' := w.heap.size + 1 + 1) (by simp) (Nat.le_refl _)
    have hBn : w.heap.size + 1 + 1 + 1 ∉ bl1 := fun h => by have := (o1.in_ good_S _ h).1; simp at this <;> omega
    have hBlo : w.heap.size + 1 < w.heap.size + 1 + 1 + 1 := by omega
    clear gb0 gb1 gb2 fb0 fb1 fb2
    go_wp2_with fail
    go_loopw [4] (fun i wr => ∃ (k : Nat), k ≤ x2.length ∧ i = .int .i64 k ∧ Bk wr w.heap.size 46 #[.int .i64 x0, .slice A1 x1.length c1, .slice A2 x2.length c2] ∧ Bk wr (w.heap.size + 1) 46 #[.int .i64 0, .slice none 0 0, .slice none 0 0] ∧ Bk wr (w.heap.size + 1 + 1 + 1) 46 #[.int .i64 x0, .slice D1 x1.length d1, .slice none 0 0] ∧ SO shS wr (w.heap.size + 1 + 1) wr.heap.size D1 d1 (flushS x1 (x2.take k)) bl1 ∧ Up w wr) (fun i _ => x2.length - (intOf i).toNat)
    case atStart => exact ⟨0, Nat.zero_le _, rfl, kA, kR, kB, oS, uW⟩
    case round =>
      obtain ⟨k, hk, rfl, kAr, kRr, kBr, hs1, hu⟩ := hrel
      have ca2 : wr.cell? ⟨w.heap.size, 2, none⟩ = some (.slice A2 x2.length c2) := kAr.cell 2
      have hin1 := hs1.in_ good_S
      by_cases hlt : k < x2.length
      · obtain ⟨g2, off2, rfl, _, hg2, hc0, hc1, q0, q1, _⟩ := atPut b2 hlt
        replace hc0 := (hu.cell hg2).trans hc0
        replace hc1 := (hu.cell hg2).trans hc1
        obtain ⟨p0, p1⟩ := hp x2[k] (List.getElem_mem hlt)
        obtain ⟨m, hm⟩ : ∃ m : Nat, x2[k].1 = (m : Int) := ⟨x2[k].1.toNat, by omega⟩
        have hmk : m < (flushS x1 (x2.take k)).length := by rw [flushS_len]; omega
        obtain ⟨g, off, o, rfl, hgb, hg1, _, hg3, hgc, hgf, hset⟩ := hs1.setS nd1 hmk
        rw [hm] at hc0
        have hx : flushS x1 (x2.take (k + 1)) = (flushS x1 (x2.take k)).set m x2[k].2 := by rw [flushS_take _ _ _ hlt, hm]; rfl
        have hBg : w.heap.size + 1 + 1 + 1 ≠ g := fun e => hBn (e ▸ hgb)
        have hm0 : (0 : Int) ≤ (m : Int) := by omega
        have hm1 : (m : Int) < (x1.length : Int) := by omega
        have cb1 : wr.cell? ⟨w.heap.size + 1 + 1 + 1, 1, none⟩ = some (.slice (some ⟨g, off, none⟩) x1.length d1) := kBr.cell 1
        have e0 : wr.drew.cell? ⟨w.heap.size + 1 + 1 + 1, 1, none⟩ = some (.slice (some ⟨g, off, none⟩) x1.length d1) := cb1
        have e1 : wr.drew.cell? ⟨w.heap.size, 2, none⟩ = some (.slice (some ⟨g2, off2, none⟩) x2.length c2) := ca2
        have e2 : wr.drew.cell? ⟨g2, off2 + k * 2, none⟩ = some (.int .i64 m) := hc0
        have e3 : wr.drew.cell? ⟨g2, off2 + k * 2 + 1, none⟩ = some (.string x2[k].2) := hc1
        have z0 := (cell_far (w := wr) (p := ⟨g, off + m, none⟩) (.string x2[k].2) (a := ⟨w.heap.size + 1 + 1 + 1, 1, none⟩) (by dsimp only; omega)).trans cb1
        have z1 := (cell_far (w := wr) (p := ⟨g, off + m, none⟩) (.string x2[k].2) (a := ⟨w.heap.size, 2, none⟩) (by dsimp only; omega)).trans ca2
        have z2 := (cell_far (w := wr) (p := ⟨g, off + m, none⟩) (.string x2[k].2) (a := ⟨g2, off2 + k * 2, none⟩) (by dsimp only; omega)).trans hc0
        have z3 := (cell_far (w := wr) (p := ⟨g, off + m, none⟩) (.string x2[k].2) (a := ⟨g2, off2 + k * 2 + 1, none⟩) (by dsimp only; omega)).trans hc1
        go_wp2_with fail
        go_region_held3 (fun W => W.cell? ⟨w.heap.size + 1 + 1 + 1, 1, none⟩ = some (.slice (some ⟨g, off, none⟩) x1.length d1) ∧ W.cell? ⟨w.heap.size, 2, none⟩ = some (.slice (some ⟨g2, off2, none⟩) x2.length c2) ∧ W.cell? ⟨g2, off2 + k * 2, none⟩ = some (.int .i64 m) ∧ W.cell? ⟨g2, off2 + k * 2 + 1, none⟩ = some (.string x2[k].2))
          (first | with_reducible exact ⟨e0, e1, e2, e3⟩ | exact ⟨z0, z1, z2, z3⟩)
          (first | fail)
        go_wp2_with fail
        go_roundw
        case rel =>
          have hso := hset x2[k].2 q1
          rw [← hx] at hso
          have hsz : (wr.setCell ⟨g, off + m, none⟩ (.string x2[k].2)).heap.size = wr.heap.size := by simp [World.setCell]
          have hso' : SO shS (wr.setCell ⟨g, off + m, none⟩ (.string x2[k].2)) (w.heap.size + 1 + 1) (wr.setCell ⟨g, off + m, none⟩ (.string x2[k].2)).heap.size (some ⟨g, off, none⟩) d1 (flushS x1 (x2.take (k + 1))) bl1 := by rw [hsz]; exact hso
          exact ⟨k + 1, by omega, by go_num, (kAr.far (p := ⟨g, off + m, none⟩) (by dsimp only; omega) _).drew, (kRr.far (p := ⟨g, off + m, none⟩) (by dsimp only; omega) _).drew, (kBr.far (p := ⟨g, off + m, none⟩) (by dsimp only; omega) _).drew, hso'.up good_S (Up.refl _).drew, (hu.setCell (p := ⟨g, off + m, none⟩) (by dsimp only; omega) _).drew⟩
        case measure => simp [intOf]; omega
      · obtain rfl : k = x2.length := by omega
        rw [List.take_length] at hs1
        have cb0 : wr.cell? ⟨w.heap.size + 1 + 1 + 1, 0, none⟩ = some (.int .i64 x0) := kBr.cell 0
        have cb1 : wr.cell? ⟨w.heap.size + 1 + 1 + 1, 1, none⟩ = some (.slice D1 x1.length d1) := kBr.cell 1
        have cb2 : wr.cell? ⟨w.heap.size + 1 + 1 + 1, 2, none⟩ = some (.slice none 0 0) := kBr.cell 2
        have cr0 : wr.cell? ⟨w.heap.size + 1, 0, none⟩ = some (.int .i64 0) := kRr.cell 0
        have cr1 : wr.cell? ⟨w.heap.size + 1, 1, none⟩ = some (.slice none 0 0) := kRr.cell 1
        have cr2 : wr.cell? ⟨w.heap.size + 1, 2, none⟩ = some (.slice none 0 0) := kRr.cell 2
        have fr0 := kRr.frozen 0
        have fr1 := kRr.frozen 1
        have fr2 := kRr.frozen 2
        go_wp2_with fail
        refine bodyPost_ret (v := .agg #[.int .i64 x0, .slice D1 x1.length d1, .slice none 0 0]) (by simp [results, Try.results59, go_sem, cr0, cr1, cr2]) rfl ?_
        have hlen : (flushS x1 x2).length = x1.length := flushS_len _ _
        have zz := (hs1.set good_S (w.heap.size + 1) 0 [.int .i64 x0, .slice D1 x1.length d1, .slice none 0 0] (by omega)).wide good_S (lo' := w.heap.size) (by omega) (Nat.le_refl _)
        have asm := asmDisk (x0 := x0) (x2 := []) b0 zz (SO.nil _ _ _)
        rw [hlen] at asm
        exact ⟨[.int .i64 x0, .slice D1 x1.length d1, .slice none 0 0], _, rfl, asm, by simpa using nd1, hu.sets (g := w.heap.size + 1) (by omega) 0 [.int .i64 x0, .slice D1 x1.length d1, .slice none 0 0]⟩
  · have kA := ka1.but (But.sets (g := w.heap.size + 1 + 1) [.int .i64 x0, .slice D1 x1.length d1, .slice none 0 0] w1 0) (by omega)
    have kR := kr1.but (But.sets (g := w.heap.size + 1 + 1) [.int .i64 x0, .slice D1 x1.length d1, .slice none 0 0] w1 0) (by omega)
    have kB : Bk (setCells w1 (w.heap.size + 1 + 1) 0 [.int .i64 x0, .slice D1 x1.length d1, .slice none 0 0]) (w.heap.size + 1 + 1) 46 #[.int .i64 x0, .slice D1 x1.length d1, .slice none 0 0] := Bk.sets [.int .i64 x0, .slice D1 x1.length d1, .slice none 0 0] kb1 0
    have uW := uu1.sets (g := w.heap.size + 1 + 1) (by omega) 0 [.int .i64 x0, .slice D1 x1.length d1, .slice none 0 0]
    have oS := (o1.set good_S (w.heap.size + 1 + 1) 0 [.int .i64 x0, .slice D1 x1.length d1, .slice none 0 0] (by simp)).wide good_S (lo' := w.heap.size + 1 + 1) (by simp) (Nat.le_refl _)
    have hBn : w.heap.size + 1 + 1 ∉ bl1 := fun h => by have := (o1.in_ good_S _ h).1; simp at this <;> omega
    have hBlo : w.heap.size + 1 < w.heap.size + 1 + 1 := by omega
    clear gb0 gb1 gb2 fb0 fb1 fb2
    go_wp2_with fail
    go_loopw [4] (fun i wr => ∃ (k : Nat), k ≤ x2.length ∧ i = .int .i64 k ∧ Bk wr w.heap.size 46 #[.int .i64 x0, .slice A1 x1.length c1, .slice A2 x2.length c2] ∧ Bk wr (w.heap.size + 1) 46 #[.int .i64 0, .slice none 0 0, .slice none 0 0] ∧ Bk wr (w.heap.size + 1 + 1) 46 #[.int .i64 x0, .slice D1 x1.length d1, .slice none 0 0] ∧ SO shS wr (w.heap.size + 1 + 1) wr.heap.size D1 d1 (flushS x1 (x2.take k)) bl1 ∧ Up w wr) (fun i _ => x2.length - (intOf i).toNat)
    case atStart => exact ⟨0, Nat.zero_le _, rfl, kA, kR, kB, oS, uW⟩
    case round =>
      obtain ⟨k, hk, rfl, kAr, kRr, kBr, hs1, hu⟩ := hrel
      have ca2 : wr.cell? ⟨w.heap.size, 2, none⟩ = some (.slice A2 x2.length c2) := kAr.cell 2
      have hin1 := hs1.in_ good_S
      by_cases hlt : k < x2.length
      · obtain ⟨g2, off2, rfl, _, hg2, hc0, hc1, q0, q1, _⟩ := atPut b2 hlt
        replace hc0 := (hu.cell hg2).trans hc0
        replace hc1 := (hu.cell hg2).trans hc1
        obtain ⟨p0, p1⟩ := hp x2[k] (List.getElem_mem hlt)
        obtain ⟨m, hm⟩ : ∃ m : Nat, x2[k].1 = (m : Int) := ⟨x2[k].1.toNat, by omega⟩
        have hmk : m < (flushS x1 (x2.take k)).length := by rw [flushS_len]; omega
        obtain ⟨g, off, o, rfl, hgb, hg1, _, hg3, hgc, hgf, hset⟩ := hs1.setS nd1 hmk
        rw [hm] at hc0
        have hx : flushS x1 (x2.take (k + 1)) = (flushS x1 (x2.take k)).set m x2[k].2 := by rw [flushS_take _ _ _ hlt, hm]; rfl
        have hBg : w.heap.size + 1 + 1 ≠ g := fun e => hBn (e ▸ hgb)
        have hm0 : (0 : Int) ≤ (m : Int) := by omega
        have hm1 : (m : Int) < (x1.length : Int) := by omega
        have cb1 : wr.cell? ⟨w.heap.size + 1 + 1, 1, none⟩ = some (.slice (some ⟨g, off, none⟩) x1.length d1) := kBr.cell 1
        have e0 : wr.drew.cell? ⟨w.heap.size + 1 + 1, 1, none⟩ = some (.slice (some ⟨g, off, none⟩) x1.length d1) := cb1
        have e1 : wr.drew.cell? ⟨w.heap.size, 2, none⟩ = some (.slice (some ⟨g2, off2, none⟩) x2.length c2) := ca2
        have e2 : wr.drew.cell? ⟨g2, off2 + k * 2, none⟩ = some (.int .i64 m) := hc0
        have e3 : wr.drew.cell? ⟨g2, off2 + k * 2 + 1, none⟩ = some (.string x2[k].2) := hc1
        have z0 := (cell_far (w := wr) (p := ⟨g, off + m, none⟩) (.string x2[k].2) (a := ⟨w.heap.size + 1 + 1, 1, none⟩) (by dsimp only; omega)).trans cb1
        have z1 := (cell_far (w := wr) (p := ⟨g, off + m, none⟩) (.string x2[k].2) (a := ⟨w.heap.size, 2, none⟩) (by dsimp only; omega)).trans ca2
        have z2 := (cell_far (w := wr) (p := ⟨g, off + m, none⟩) (.string x2[k].2) (a := ⟨g2, off2 + k * 2, none⟩) (by dsimp only; omega)).trans hc0
        have z3 := (cell_far (w := wr) (p := ⟨g, off + m, none⟩) (.string x2[k].2) (a := ⟨g2, off2 + k * 2 + 1, none⟩) (by dsimp only; omega)).trans hc1
        go_wp2_with fail
        go_region_held3 (fun W => W.cell? ⟨w.heap.size + 1 + 1, 1, none⟩ = some (.slice (some ⟨g, off, none⟩) x1.length d1) ∧ W.cell? ⟨w.heap.size, 2, none⟩ = some (.slice (some ⟨g2, off2, none⟩) x2.length c2) ∧ W.cell? ⟨g2, off2 + k * 2, none⟩ = some (.int .i64 m) ∧ W.cell? ⟨g2, off2 + k * 2 + 1, none⟩ = some (.string x2[k].2))
          (first | with_reducible exact ⟨e0, e1, e2, e3⟩ | exact ⟨z0, z1, z2, z3⟩)
          (first | fail)
        go_wp2_with fail
        go_roundw
        case rel =>
          have hso := hset x2[k].2 q1
          rw [← hx] at hso
          have hsz : (wr.setCell ⟨g, off + m, none⟩ (.string x2[k].2)).heap.size = wr.heap.size := by simp [World.setCell]
          have hso' : SO shS (wr.setCell ⟨g, off + m, none⟩ (.string x2[k].2)) (w.heap.size + 1 + 1) (wr.setCell ⟨g, off + m, none⟩ (.string x2[k].2)).heap.size (some ⟨g, off, none⟩) d1 (flushS x1 (x2.take (k + 1))) bl1 := by rw [hsz]; exact hso
          exact ⟨k + 1, by omega, by go_num, (kAr.far (p := ⟨g, off + m, none⟩) (by dsimp only; omega) _).drew, (kRr.far (p := ⟨g, off + m, none⟩) (by dsimp only; omega) _).drew, (kBr.far (p := ⟨g, off + m, none⟩) (by dsimp only; omega) _).drew, hso'.up good_S (Up.refl _).drew, (hu.setCell (p := ⟨g, off + m, none⟩) (by dsimp only; omega) _).drew⟩
        case measure => simp [intOf]; omega
      · obtain rfl : k = x2.length := by omega
        rw [List.take_length] at hs1
        have cb0 : wr.cell? ⟨w.heap.size + 1 + 1, 0, none⟩ = some (.int .i64 x0) := kBr.cell 0
        have cb1 : wr.cell? ⟨w.heap.size + 1 + 1, 1, none⟩ = some (.slice D1 x1.length d1) := kBr.cell 1
        have cb2 : wr.cell? ⟨w.heap.size + 1 + 1, 2, none⟩ = some (.slice none 0 0) := kBr.cell 2
        have cr0 : wr.cell? ⟨w.heap.size + 1, 0, none⟩ = some (.int .i64 0) := kRr.cell 0
        have cr1 : wr.cell? ⟨w.heap.size + 1, 1, none⟩ = some (.slice none 0 0) := kRr.cell 1
        have cr2 : wr.cell? ⟨w.heap.size + 1, 2, none⟩ = some (.slice none 0 0) := kRr.cell 2
        have fr0 := kRr.frozen 0
        have fr1 := kRr.frozen 1
        have fr2 := kRr.frozen 2
        go_wp2_with fail
        refine bodyPost_ret (v := .agg #[.int .i64 x0, .slice D1 x1.length d1, .slice none 0 0]) (by simp [results, Try.results59, go_sem, cr0, cr1, cr2]) rfl ?_
        have hlen : (flushS x1 x2).length = x1.length := flushS_len _ _
        have zz := (hs1.set good_S (w.heap.size + 1) 0 [.int .i64 x0, .slice D1 x1.length d1, .slice none 0 0] (by omega)).wide good_S (lo' := w.heap.size) (by omega) (Nat.le_refl _)
        have asm := asmDisk (x0 := x0) (x2 := []) b0 zz (SO.nil _ _ _)
        rw [hlen] at asm
        exact ⟨[.int .i64 x0, .slice D1 x1.length d1, .slice none 0 0], _, rfl, asm, by simpa using nd1, hu.sets (g := w.heap.size + 1) (by omega) 0 [.int .i64 x0, .slice D1 x1.length d1, .slice none 0 0]⟩
end Go.Proofs.Ytidfeipilleafaa
