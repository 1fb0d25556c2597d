/-
  Contracts of the laws' to helpers, by genlaw.py
-/
import Derived.Test.YtelioflobahchaaGreatDoorRows
import Derived.Test.YtelioflobahchaaGreatDoorTy
import Derived.Test.YtelioflobahchaaGreatDoorRep2
import Derived.StillTailTactics
namespace Go.Proofs.YtelioflobahchaaGreatDoor
open Go.RowKit
set_option linter.unusedSimpArgs false
set_option linter.unusedVariables false

theorem info_String : (Tryz.prog.info? 9).map (fun i => (i.zero, i.size, i.bytes)) = some (some (.string ⟨#[]⟩), 1, 16) := by kernel_rfl
set_option maxHeartbeats 1000000 in
theorem c_toStringS (xs : List ByteArray) (A : Option Addr) (c : Nat) (w : World) (h : SRW shS w A c xs) (hn : (shL shS).sz xs ≤ 1048576) :
    Calls Tryz.prog 22 #[.slice A xs.length c] w (ToL shS xs w) := by
  have hl : xs.length ≤ 1048576 := Nat.le_trans (Nat.le_add_right _ _) hn
  obtain ⟨i0, hi0, hz0, hz1, hz2⟩ := info_parts info_String
  have hmk := fun W => run_make_rows (P := Tryz.prog) 41 9 i0 _ Tryz.underlying41 hi0 hz0 xs.length (by rw [hz2]; omega) (by omega) W
  rw [hz1] at hmk
  clear hi0 hz0 hz1 hz2
  obtain ⟨C0, hC0⟩ : ∃ C0, C0 = madeCells (Value.cells (.string ⟨#[]⟩)) (xs.length * 1) := ⟨_, rfl⟩
  rw [← hC0] at hmk
  have HB : Bld shS w.heap.size (w.alloc (.cells C0 9)) w.heap.size 9 C0 xs.length xs 0 :=
    Bld.start (Nat.le_refl _) (Bk.new _ _ _) (by rw [hC0, size_madeCells]; rfl)
  clear hC0
  go_enter Tryz.func22, Tryz.ntmps22
  go_wp2
  go_loopw [4] (fun i wr => ∃ (k : Nat) (C : Array Value), k ≤ xs.length ∧ i = .int .i64 k ∧ Bld shS w.heap.size wr w.heap.size 9 C xs.length xs k ∧ Up w wr) (fun i _ => xs.length - (intOf i).toNat)
  case atStart => exact ⟨0, C0, Nat.zero_le _, rfl, HB, (Up.refl _).alloc _⟩
  case round =>
    obtain ⟨k, C, hk, rfl, hB, hu⟩ := hrel
    by_cases hlt : k < xs.length
    · obtain ⟨g, off, rfl, _, _, hc, hb⟩ := (h.up good_S hu).at_S hlt
      have hbk := hB.1
      have hC : C.size = xs.length * 1 := hB.2.1
      obtain ⟨o0, hc2⟩ : ∃ o, wr.cell? ⟨w.heap.size, k, none⟩ = some o := by rw [hbk.cell]; exact ⟨_, Array.getElem?_eq_getElem (by omega)⟩
      have hf2 := hbk.frozen k
      go_wp2
      go_roundw
      case rel => exact ⟨k + 1, _, by omega, by go_num, hB.push good_S (Up.refl _) (cs := [.string xs[k]]) (x := xs[k]) (b := []) ⟨⟨rfl, by unfold maxLen; omega⟩, rfl⟩ (by simp) (List.getElem?_eq_getElem hlt) hlt (But.set _ _ _ _) (by simpa [putCells, shS] using hbk.set k (.string xs[k])), hu.setCell (Nat.le_refl _) _⟩
      case measure => simp [intOf]; omega
    · obtain ⟨bl, hso, hnd⟩ := hB.done (c := xs.length) (by omega) (Nat.le_refl _) (by unfold maxLen; omega) (Nat.le_refl _)
      go_wp2
      go_ret
      exact ⟨_, _, bl, rfl, hso, hnd, hu⟩













theorem asmNode {w : World} {lo hi : Nat} {x0 : ByteArray} {x1 : List ByteArray} {D1 : Option Addr} {d1 : Nat} {x2 : ByteArray} {bl1 : List Nat} (h0 : x0.size ≤ maxLen) (h1 : SO shS w lo hi D1 d1 x1 bl1) (h2 : x2.size ≤ maxLen) : shNode.own w lo hi [.string x0, .slice D1 x1.length d1, .string x2] (x0, x1, x2) (bl1) := by
  have h : shNode.own w lo hi [.string x0, .slice D1 x1.length d1, .string x2] (x0, x1, x2) _ := (mkO_P (a := shS) (x := (x0, x1, x2)) good_S ⟨⟨rfl, h0⟩, rfl⟩ (mkO_P (a := (shL shS)) (x := (x1, x2)) (good_L good_S) ⟨D1, d1, rfl, h1⟩ ⟨⟨rfl, h2⟩, rfl⟩))
  simpa using h
set_option maxRecDepth 100000 in
set_option maxHeartbeats 4000000 in
theorem c_toNode (v : Value) (x : TNode) (w : World) (h : AV shNode w v x) (hn : shNode.sz x ≤ 1048576) :
    Calls Tryz.prog 72 #[v] w (ToV shNode x w) := by
  obtain ⟨cs, rfl, h⟩ := h
  obtain ⟨x0, x1, x2⟩ := x
  have ho := openNode h
  try dsimp only at ho
  obtain ⟨A1, c1, rfl, b0, b1, b2⟩ := ho
  have hs : shNode.sz (x0, x1, x2) = x0.size + ((shL shS).sz x1 + (x2.size)) := rfl
  have hl1 : (shL shS).sz x1 ≤ 1048576 := by omega
  clear hs hn
  go_enter Tryz.func72, Tryz.ntmps72
  go_wp2_with fail
  have vv0 : Up w (((w.alloc (.cells #[.string x0, .slice A1 x1.length c1, .string x2] 92)).alloc (.cells #[.string ⟨#[]⟩, .slice none 0 0, .string ⟨#[]⟩] 79)).alloc (.cells #[.string x0, .slice none 0 0, .string ⟨#[]⟩] 79)) := (((Up.refl _).alloc _).alloc _).alloc _
  have ja0 : Bk (((w.alloc (.cells #[.string x0, .slice A1 x1.length c1, .string x2] 92)).alloc (.cells #[.string ⟨#[]⟩, .slice none 0 0, .string ⟨#[]⟩] 79)).alloc (.cells #[.string x0, .slice none 0 0, .string ⟨#[]⟩] 79)) w.heap.size 92 #[.string x0, .slice A1 x1.length c1, .string x2] := ((Bk.new _ _ _).alloc _).alloc _
  have jr0 : Bk (((w.alloc (.cells #[.string x0, .slice A1 x1.length c1, .string x2] 92)).alloc (.cells #[.string ⟨#[]⟩, .slice none 0 0, .string ⟨#[]⟩] 79)).alloc (.cells #[.string x0, .slice none 0 0, .string ⟨#[]⟩] 79)) (w.heap.size + 1) 79 #[.string ⟨#[]⟩, .slice none 0 0, .string ⟨#[]⟩] := by simpa using (Bk.new (w.alloc (.cells #[.string x0, .slice A1 x1.length c1, .string x2] 92)) 79 #[.string ⟨#[]⟩, .slice none 0 0, .string ⟨#[]⟩]).alloc (.cells #[.string x0, .slice none 0 0, .string ⟨#[]⟩] 79)
  have jo0 : Bk (((w.alloc (.cells #[.string x0, .slice A1 x1.length c1, .string x2] 92)).alloc (.cells #[.string ⟨#[]⟩, .slice none 0 0, .string ⟨#[]⟩] 79)).alloc (.cells #[.string x0, .slice none 0 0, .string ⟨#[]⟩] 79)) (w.heap.size + 1 + 1) 79 #[.string x0, .slice none 0 0, .string ⟨#[]⟩] := by simpa using Bk.new ((w.alloc (.cells #[.string x0, .slice A1 x1.length c1, .string x2] 92)).alloc (.cells #[.string ⟨#[]⟩, .slice none 0 0, .string ⟨#[]⟩] 79)) 79 #[.string x0, .slice none 0 0, .string ⟨#[]⟩]
  have sz0 : w.heap.size + 1 + 1 + 1 = (((w.alloc (.cells #[.string x0, .slice A1 x1.length c1, .string x2] 92)).alloc (.cells #[.string ⟨#[]⟩, .slice none 0 0, .string ⟨#[]⟩] 79)).alloc (.cells #[.string x0, .slice none 0 0, .string ⟨#[]⟩] 79)).heap.size := by simp
  refine (c_toStringS _ _ _ _ (b1.up good_S vv0) hl1).mono ?_
  rintro e w1 ⟨D1, d1, bl1, rfl, o1, nd1, u1⟩
  have uu1 := vv0.trans u1
  have ka1 := ja0.up u1
  have kr1 := jr0.up u1
  have ko1 := jo0.up u1
  have zz1 := u1.size
  rw [← sz0] at zz1
  have s1_1 : SO shS w1 (w.heap.size + 1 + 1 + 1) w1.heap.size D1 d1 x1 bl1 := by rw [sz0]; exact o1
  have nn1 : (bl1).Nodup := nd1
  have mm1 : ∀ b ∈ bl1, b < w1.heap.size := fun b hb => (s1_1.in_ good_S b hb).2
  clear ja0 jr0 jo0 u1 o1
  have ga1_0 : w1.cell? ⟨w.heap.size, 0, none⟩ = some (.string x0) := ka1.cell 0
  have gr1_0 : w1.cell? ⟨w.heap.size + 1, 0, none⟩ = some (.string ⟨#[]⟩) := kr1.cell 0
  have go1_0 : w1.cell? ⟨w.heap.size + 1 + 1, 0, none⟩ = some (.string x0) := ko1.cell 0
  have fr1_0 := kr1.frozen 0
  have fo1_0 := ko1.frozen 0
  have ga1_1 : w1.cell? ⟨w.heap.size, 1, none⟩ = some (.slice A1 x1.length c1) := ka1.cell 1
  have gr1_1 : w1.cell? ⟨w.heap.size + 1, 1, none⟩ = some (.slice none 0 0) := kr1.cell 1
  have go1_1 : w1.cell? ⟨w.heap.size + 1 + 1, 1, none⟩ = some (.slice none 0 0) := ko1.cell 1
  have fr1_1 := kr1.frozen 1
  have fo1_1 := ko1.frozen 1
  have ga1_2 : w1.cell? ⟨w.heap.size, 2, none⟩ = some (.string x2) := ka1.cell 2
  have gr1_2 : w1.cell? ⟨w.heap.size + 1, 2, none⟩ = some (.string ⟨#[]⟩) := kr1.cell 2
  have go1_2 : w1.cell? ⟨w.heap.size + 1 + 1, 2, none⟩ = some (.string ⟨#[]⟩) := ko1.cell 2
  have fr1_2 := kr1.frozen 2
  have fo1_2 := ko1.frozen 2
  go_wp2_with fail
  have z_1 := (((s1_1.set good_S (w.heap.size + 1 + 1) 1 [.slice D1 x1.length d1] (by omega)).set good_S (w.heap.size + 1 + 1) 2 [.string x2] (by omega)).set good_S (w.heap.size + 1) 0 [.string x0, .slice D1 x1.length d1, .string x2] (by omega)).wide good_S (lo' := w.heap.size) (by omega) (Nat.le_refl _)
  have fu := (((uu1.sets (g := (w.heap.size + 1 + 1)) (by omega) 1 [.slice D1 x1.length d1]).sets (g := (w.heap.size + 1 + 1)) (by omega) 2 [.string x2]).sets (g := (w.heap.size + 1)) (by omega) 0 [.string x0, .slice D1 x1.length d1, .string x2])
  refine bodyPost_ret (v := .agg #[.string x0, .slice D1 x1.length d1, .string x2]) (by simp [results, Tryz.results72, go_sem, gr1_0, gr1_1, gr1_2]) rfl ?_
  exact ⟨[.string x0, .slice D1 x1.length d1, .string x2], _, rfl, asmNode b0 z_1 b2, by simpa using nn1, fu⟩

theorem info_Node : (Tryz.prog.info? 79).map (fun i => (i.zero, i.size, i.bytes)) = some (some (.agg #[.string ⟨#[]⟩, .slice none 0 0, .string ⟨#[]⟩]), 3, 56) := by kernel_rfl
set_option maxHeartbeats 1000000 in
theorem c_toNodeS (xs : List TNode) (A : Option Addr) (c : Nat) (w : World) (h : SRW shNode w A c xs) (hn : (shL shNode).sz xs ≤ 1048576) :
    Calls Tryz.prog 41 #[.slice A xs.length c] w (ToL shNode xs w) := by
  have hl : xs.length ≤ 1048576 := Nat.le_trans (Nat.le_add_right _ _) hn
  obtain ⟨i0, hi0, hz0, hz1, hz2⟩ := info_parts info_Node
  have hmk := fun W => run_make_rows (P := Tryz.prog) 28 79 i0 _ Tryz.underlying28 hi0 hz0 xs.length (by rw [hz2]; omega) (by omega) W
  rw [hz1] at hmk
  clear hi0 hz0 hz1 hz2
  obtain ⟨C0, hC0⟩ : ∃ C0, C0 = madeCells (Value.cells (.agg #[.string ⟨#[]⟩, .slice none 0 0, .string ⟨#[]⟩])) (xs.length * 3) := ⟨_, rfl⟩
  rw [← hC0] at hmk
  have HB : Bld shNode w.heap.size (w.alloc (.cells C0 79)) w.heap.size 79 C0 xs.length xs 0 :=
    Bld.start (Nat.le_refl _) (Bk.new _ _ _) (by rw [hC0, size_madeCells]; rfl)
  clear hC0
  go_enter Tryz.func41, Tryz.ntmps41
  go_wp2
  go_loopw [4] (fun i wr => ∃ (k : Nat) (C : Array Value), k ≤ xs.length ∧ i = .int .i64 k ∧ Bld shNode w.heap.size wr w.heap.size 79 C xs.length xs k ∧ Up w wr) (fun i _ => xs.length - (intOf i).toNat)
  case atStart => exact ⟨0, C0, Nat.zero_le _, rfl, HB, (Up.refl _).alloc _⟩
  case round =>
    obtain ⟨k, C, hk, rfl, hB, hu⟩ := hrel
    by_cases hlt : k < xs.length
    · obtain ⟨g, off, A1, c1, rfl, _, _, hc0, hc1, hc2, b0, b1, b2, _⟩ := atNode (h.up good_Node hu) hlt
      have hx := sz_le shNode xs hlt hn
      go_wp2_with fail
      refine (c_toNode _ xs[k] _ ⟨_, rfl, mkNode (x := xs[k]) b0 b1 b2⟩ hx).mono ?_
      rintro e w1 ⟨cs, bl, rfl, ho, hnd, u1⟩
      obtain ⟨D1, d1, _, rfl, rfl, _, _, _⟩ := openONode ho
      have hbk := hB.1.up u1
      have hC : C.size = xs.length * 3 := hB.2.1
      obtain ⟨o0, hm0⟩ : ∃ o, w1.cell? ⟨w.heap.size, k * 3, none⟩ = some o := by rw [hbk.cell]; exact ⟨_, Array.getElem?_eq_getElem (by omega)⟩
      have hf0 := hbk.frozen (k * 3)
      obtain ⟨o1, hm1⟩ : ∃ o, w1.cell? ⟨w.heap.size, k * 3 + 1, none⟩ = some o := by rw [hbk.cell]; exact ⟨_, Array.getElem?_eq_getElem (by omega)⟩
      have hf1 := hbk.frozen (k * 3 + 1)
      obtain ⟨o2, hm2⟩ : ∃ o, w1.cell? ⟨w.heap.size, k * 3 + 2, none⟩ = some o := by rw [hbk.cell]; exact ⟨_, Array.getElem?_eq_getElem (by omega)⟩
      have hf2 := hbk.frozen (k * 3 + 2)
      go_wp2_with fail
      go_roundw
      case rel => exact ⟨k + 1, _, by omega, by go_num, hB.push good_Node u1 ho hnd (List.getElem?_eq_getElem hlt) hlt (But.sets [_, _, _] _ _) (Bk.sets [_, _, _] hbk _), (hu.trans u1).sets (Nat.le_refl _) _ [_, _, _]⟩
      case measure => simp [intOf]; omega
    · obtain ⟨bl, hso, hnd⟩ := hB.done (c := xs.length) (by omega) (Nat.le_refl _) (by unfold maxLen; omega) (Nat.le_refl _)
      go_wp2
      go_ret
      exact ⟨_, _, bl, rfl, hso, hnd, hu⟩

theorem asmTree {w : World} {lo hi : Nat} {x0 : List TNode} {D0 : Option Addr} {d0 : Nat} {bl0 : List Nat} (h0 : SO shNode w lo hi D0 d0 x0 bl0) : shTree.own w lo hi [.slice D0 x0.length d0] x0 (bl0) := by
  have h : shTree.own w lo hi [.slice D0 x0.length d0] x0 _ := ⟨D0, d0, rfl, h0⟩
  simpa using h
set_option maxRecDepth 100000 in
set_option maxHeartbeats 4000000 in
theorem c_toTree (v : Value) (x : TTree) (w : World) (h : AV shTree w v x) (hn : shTree.sz x ≤ 1048576) :
    Calls Tryz.prog 10 #[v] w (ToV shTree x w) := by
  obtain ⟨cs, rfl, h⟩ := h
  obtain ⟨x0, rfl⟩ : ∃ q, q = x := ⟨_, rfl⟩
  have ho := openTree h
  try dsimp only at ho
  obtain ⟨A0, c0, rfl, b0⟩ := ho
  have hs : shTree.sz x0 = (shL shNode).sz x0 := rfl
  have hl0 : (shL shNode).sz x0 ≤ 1048576 := by omega
  clear hs hn
  go_enter Tryz.func10, Tryz.ntmps10
  go_wp2_with fail
  have vv0 : Up w (((w.alloc (.cells #[.slice A0 x0.length c0] 24)).alloc (.cells #[.slice none 0 0] 30)).alloc (.cells #[.slice none 0 0] 30)) := (((Up.refl _).alloc _).alloc _).alloc _
  have ja0 : Bk (((w.alloc (.cells #[.slice A0 x0.length c0] 24)).alloc (.cells #[.slice none 0 0] 30)).alloc (.cells #[.slice none 0 0] 30)) w.heap.size 24 #[.slice A0 x0.length c0] := ((Bk.new _ _ _).alloc _).alloc _
  have jr0 : Bk (((w.alloc (.cells #[.slice A0 x0.length c0] 24)).alloc (.cells #[.slice none 0 0] 30)).alloc (.cells #[.slice none 0 0] 30)) (w.heap.size + 1) 30 #[.slice none 0 0] := by simpa using (Bk.new (w.alloc (.cells #[.slice A0 x0.length c0] 24)) 30 #[.slice none 0 0]).alloc (.cells #[.slice none 0 0] 30)
  have jo0 : Bk (((w.alloc (.cells #[.slice A0 x0.length c0] 24)).alloc (.cells #[.slice none 0 0] 30)).alloc (.cells #[.slice none 0 0] 30)) (w.heap.size + 1 + 1) 30 #[.slice none 0 0] := by simpa using Bk.new ((w.alloc (.cells #[.slice A0 x0.length c0] 24)).alloc (.cells #[.slice none 0 0] 30)) 30 #[.slice none 0 0]
  have sz0 : w.heap.size + 1 + 1 + 1 = (((w.alloc (.cells #[.slice A0 x0.length c0] 24)).alloc (.cells #[.slice none 0 0] 30)).alloc (.cells #[.slice none 0 0] 30)).heap.size := by simp
  refine (c_toNodeS _ _ _ _ (b0.up good_Node vv0) hl0).mono ?_
  rintro e w1 ⟨D0, d0, bl0, rfl, o0, nd0, u1⟩
  have uu1 := vv0.trans u1
  have ka1 := ja0.up u1
  have kr1 := jr0.up u1
  have ko1 := jo0.up u1
  have zz1 := u1.size
  rw [← sz0] at zz1
  have s1_0 : SO shNode w1 (w.heap.size + 1 + 1 + 1) w1.heap.size D0 d0 x0 bl0 := by rw [sz0]; exact o0
  have nn1 : (bl0).Nodup := nd0
  have mm1 : ∀ b ∈ bl0, b < w1.heap.size := fun b hb => (s1_0.in_ good_Node b hb).2
  clear ja0 jr0 jo0 u1 o0
  have ga1_0 : w1.cell? ⟨w.heap.size, 0, none⟩ = some (.slice A0 x0.length c0) := ka1.cell 0
  have gr1_0 : w1.cell? ⟨w.heap.size + 1, 0, none⟩ = some (.slice none 0 0) := kr1.cell 0
  have go1_0 : w1.cell? ⟨w.heap.size + 1 + 1, 0, none⟩ = some (.slice none 0 0) := ko1.cell 0
  have fr1_0 := kr1.frozen 0
  have fo1_0 := ko1.frozen 0
  go_wp2_with fail
  have z_0 := ((s1_0.set good_Node (w.heap.size + 1 + 1) 0 [.slice D0 x0.length d0] (by omega)).set good_Node (w.heap.size + 1) 0 [.slice D0 x0.length d0] (by omega)).wide good_Node (lo' := w.heap.size) (by omega) (Nat.le_refl _)
  have fu := ((uu1.sets (g := (w.heap.size + 1 + 1)) (by omega) 0 [.slice D0 x0.length d0]).sets (g := (w.heap.size + 1)) (by omega) 0 [.slice D0 x0.length d0])
  refine bodyPost_ret (v := .agg #[.slice D0 x0.length d0]) (by simp [results, Tryz.results10, go_sem, gr1_0]) rfl ?_
  exact ⟨[.slice D0 x0.length d0], _, rfl, asmTree z_0, by simpa using nn1, fu⟩

theorem asmChange {w : World} {lo hi : Nat} {x0 : Int} {x1 : ByteArray} {x2 : List ByteArray} {D2 : Option Addr} {d2 : Nat} {x3 : ByteArray} {bl2 : List Nat} (h0 : I64 x0) (h1 : x1.size ≤ maxLen) (h2 : SO shS w lo hi D2 d2 x2 bl2) (h3 : x3.size ≤ maxLen) : shChange.own w lo hi [.int .i64 x0, .string x1, .slice D2 x2.length d2, .string x3] (x0, x1, x2, x3) (bl2) := by
  have h : shChange.own w lo hi [.int .i64 x0, .string x1, .slice D2 x2.length d2, .string x3] (x0, x1, x2, x3) _ := (mkO_P (a := shI) (x := (x0, x1, x2, x3)) good_I ⟨⟨rfl, h0⟩, rfl⟩ (mkO_P (a := shS) (x := (x1, x2, x3)) good_S ⟨⟨rfl, h1⟩, rfl⟩ (mkO_P (a := (shL shS)) (x := (x2, x3)) (good_L good_S) ⟨D2, d2, rfl, h2⟩ ⟨⟨rfl, h3⟩, rfl⟩)))
  simpa using h
set_option maxRecDepth 100000 in
set_option maxHeartbeats 4000000 in
theorem c_toChange (v : Value) (x : TChange) (w : World) (h : AV shChange w v x) (hn : shChange.sz x ≤ 1048576) :
    Calls Tryz.prog 63 #[v] w (ToV shChange x w) := by
  obtain ⟨cs, rfl, h⟩ := h
  obtain ⟨x0, x1, x2, x3⟩ := x
  have ho := openChange h
  try dsimp only at ho
  obtain ⟨A2, c2, rfl, b0, b1, b2, b3⟩ := ho
  have hs : shChange.sz (x0, x1, x2, x3) = 0 + (x1.size + ((shL shS).sz x2 + (x3.size))) := rfl
  have hl2 : (shL shS).sz x2 ≤ 1048576 := by omega
  clear hs hn
  go_enter Tryz.func63, Tryz.ntmps63
  go_wp2_with fail
  have vv0 : Up w (((w.alloc (.cells #[.int .i64 x0, .string x1, .slice A2 x2.length c2, .string x3] 85)).alloc (.cells #[.int .i64 0, .string ⟨#[]⟩, .slice none 0 0, .string ⟨#[]⟩] 88)).alloc (.cells #[.int .i64 x0, .string x1, .slice none 0 0, .string ⟨#[]⟩] 88)) := (((Up.refl _).alloc _).alloc _).alloc _
  have ja0 : Bk (((w.alloc (.cells #[.int .i64 x0, .string x1, .slice A2 x2.length c2, .string x3] 85)).alloc (.cells #[.int .i64 0, .string ⟨#[]⟩, .slice none 0 0, .string ⟨#[]⟩] 88)).alloc (.cells #[.int .i64 x0, .string x1, .slice none 0 0, .string ⟨#[]⟩] 88)) w.heap.size 85 #[.int .i64 x0, .string x1, .slice A2 x2.length c2, .string x3] := ((Bk.new _ _ _).alloc _).alloc _
  have jr0 : Bk (((w.alloc (.cells #[.int .i64 x0, .string x1, .slice A2 x2.length c2, .string x3] 85)).alloc (.cells #[.int .i64 0, .string ⟨#[]⟩, .slice none 0 0, .string ⟨#[]⟩] 88)).alloc (.cells #[.int .i64 x0, .string x1, .slice none 0 0, .string ⟨#[]⟩] 88)) (w.heap.size + 1) 88 #[.int .i64 0, .string ⟨#[]⟩, .slice none 0 0, .string ⟨#[]⟩] := by simpa using (Bk.new (w.alloc (.cells #[.int .i64 x0, .string x1, .slice A2 x2.length c2, .string x3] 85)) 88 #[.int .i64 0, .string ⟨#[]⟩, .slice none 0 0, .string ⟨#[]⟩]).alloc (.cells #[.int .i64 x0, .string x1, .slice none 0 0, .string ⟨#[]⟩] 88)
  have jo0 : Bk (((w.alloc (.cells #[.int .i64 x0, .string x1, .slice A2 x2.length c2, .string x3] 85)).alloc (.cells #[.int .i64 0, .string ⟨#[]⟩, .slice none 0 0, .string ⟨#[]⟩] 88)).alloc (.cells #[.int .i64 x0, .string x1, .slice none 0 0, .string ⟨#[]⟩] 88)) (w.heap.size + 1 + 1) 88 #[.int .i64 x0, .string x1, .slice none 0 0, .string ⟨#[]⟩] := by simpa using Bk.new ((w.alloc (.cells #[.int .i64 x0, .string x1, .slice A2 x2.length c2, .string x3] 85)).alloc (.cells #[.int .i64 0, .string ⟨#[]⟩, .slice none 0 0, .string ⟨#[]⟩] 88)) 88 #[.int .i64 x0, .string x1, .slice none 0 0, .string ⟨#[]⟩]
  have sz0 : w.heap.size + 1 + 1 + 1 = (((w.alloc (.cells #[.int .i64 x0, .string x1, .slice A2 x2.length c2, .string x3] 85)).alloc (.cells #[.int .i64 0, .string ⟨#[]⟩, .slice none 0 0, .string ⟨#[]⟩] 88)).alloc (.cells #[.int .i64 x0, .string x1, .slice none 0 0, .string ⟨#[]⟩] 88)).heap.size := by simp
  refine (c_toStringS _ _ _ _ (b2.up good_S vv0) hl2).mono ?_
  rintro e w1 ⟨D2, d2, bl2, rfl, o2, nd2, u1⟩
  have uu1 := vv0.trans u1
  have ka1 := ja0.up u1
  have kr1 := jr0.up u1
  have ko1 := jo0.up u1
  have zz1 := u1.size
  rw [← sz0] at zz1
  have s1_2 : SO shS w1 (w.heap.size + 1 + 1 + 1) w1.heap.size D2 d2 x2 bl2 := by rw [sz0]; exact o2
  have nn1 : (bl2).Nodup := nd2
  have mm1 : ∀ b ∈ bl2, b < w1.heap.size := fun b hb => (s1_2.in_ good_S b hb).2
  clear ja0 jr0 jo0 u1 o2
  have ga1_0 : w1.cell? ⟨w.heap.size, 0, none⟩ = some (.int .i64 x0) := ka1.cell 0
  have gr1_0 : w1.cell? ⟨w.heap.size + 1, 0, none⟩ = some (.int .i64 0) := kr1.cell 0
  have go1_0 : w1.cell? ⟨w.heap.size + 1 + 1, 0, none⟩ = some (.int .i64 x0) := ko1.cell 0
  have fr1_0 := kr1.frozen 0
  have fo1_0 := ko1.frozen 0
  have ga1_1 : w1.cell? ⟨w.heap.size, 1, none⟩ = some (.string x1) := ka1.cell 1
  have gr1_1 : w1.cell? ⟨w.heap.size + 1, 1, none⟩ = some (.string ⟨#[]⟩) := kr1.cell 1
  have go1_1 : w1.cell? ⟨w.heap.size + 1 + 1, 1, none⟩ = some (.string x1) := ko1.cell 1
  have fr1_1 := kr1.frozen 1
  have fo1_1 := ko1.frozen 1
  have ga1_2 : w1.cell? ⟨w.heap.size, 2, none⟩ = some (.slice A2 x2.length c2) := ka1.cell 2
  have gr1_2 : w1.cell? ⟨w.heap.size + 1, 2, none⟩ = some (.slice none 0 0) := kr1.cell 2
  have go1_2 : w1.cell? ⟨w.heap.size + 1 + 1, 2, none⟩ = some (.slice none 0 0) := ko1.cell 2
  have fr1_2 := kr1.frozen 2
  have fo1_2 := ko1.frozen 2
  have ga1_3 : w1.cell? ⟨w.heap.size, 3, none⟩ = some (.string x3) := ka1.cell 3
  have gr1_3 : w1.cell? ⟨w.heap.size + 1, 3, none⟩ = some (.string ⟨#[]⟩) := kr1.cell 3
  have go1_3 : w1.cell? ⟨w.heap.size + 1 + 1, 3, none⟩ = some (.string ⟨#[]⟩) := ko1.cell 3
  have fr1_3 := kr1.frozen 3
  have fo1_3 := ko1.frozen 3
  go_wp2_with fail
  have z_2 := (((s1_2.set good_S (w.heap.size + 1 + 1) 2 [.slice D2 x2.length d2] (by omega)).set good_S (w.heap.size + 1 + 1) 3 [.string x3] (by omega)).set good_S (w.heap.size + 1) 0 [.int .i64 x0, .string x1, .slice D2 x2.length d2, .string x3] (by omega)).wide good_S (lo' := w.heap.size) (by omega) (Nat.le_refl _)
  have fu := (((uu1.sets (g := (w.heap.size + 1 + 1)) (by omega) 2 [.slice D2 x2.length d2]).sets (g := (w.heap.size + 1 + 1)) (by omega) 3 [.string x3]).sets (g := (w.heap.size + 1)) (by omega) 0 [.int .i64 x0, .string x1, .slice D2 x2.length d2, .string x3])
  refine bodyPost_ret (v := .agg #[.int .i64 x0, .string x1, .slice D2 x2.length d2, .string x3]) (by simp [results, Tryz.results63, go_sem, gr1_0, gr1_1, gr1_2, gr1_3]) rfl ?_
  exact ⟨[.int .i64 x0, .string x1, .slice D2 x2.length d2, .string x3], _, rfl, asmChange b0 b1 z_2 b3, by simpa using nn1, fu⟩

theorem info_Change : (Tryz.prog.info? 88).map (fun i => (i.zero, i.size, i.bytes)) = some (some (.agg #[.int .i64 0, .string ⟨#[]⟩, .slice none 0 0, .string ⟨#[]⟩]), 4, 64) := by kernel_rfl
set_option maxHeartbeats 1000000 in
theorem c_toChangeS (xs : List TChange) (A : Option Addr) (c : Nat) (w : World) (h : SRW shChange w A c xs) (hn : (shL shChange).sz xs ≤ 1048576) :
    Calls Tryz.prog 28 #[.slice A xs.length c] w (ToL shChange xs w) := by
  have hl : xs.length ≤ 1048576 := Nat.le_trans (Nat.le_add_right _ _) hn
  obtain ⟨i0, hi0, hz0, hz1, hz2⟩ := info_parts info_Change
  have hmk := fun W => run_make_rows (P := Tryz.prog) 51 88 i0 _ Tryz.underlying51 hi0 hz0 xs.length (by rw [hz2]; omega) (by omega) W
  rw [hz1] at hmk
  clear hi0 hz0 hz1 hz2
  obtain ⟨C0, hC0⟩ : ∃ C0, C0 = madeCells (Value.cells (.agg #[.int .i64 0, .string ⟨#[]⟩, .slice none 0 0, .string ⟨#[]⟩])) (xs.length * 4) := ⟨_, rfl⟩
  rw [← hC0] at hmk
  have HB : Bld shChange w.heap.size (w.alloc (.cells C0 88)) w.heap.size 88 C0 xs.length xs 0 :=
    Bld.start (Nat.le_refl _) (Bk.new _ _ _) (by rw [hC0, size_madeCells]; rfl)
  clear hC0
  go_enter Tryz.func28, Tryz.ntmps28
  go_wp2
  go_loopw [4] (fun i wr => ∃ (k : Nat) (C : Array Value), k ≤ xs.length ∧ i = .int .i64 k ∧ Bld shChange w.heap.size wr w.heap.size 88 C xs.length xs k ∧ Up w wr) (fun i _ => xs.length - (intOf i).toNat)
  case atStart => exact ⟨0, C0, Nat.zero_le _, rfl, HB, (Up.refl _).alloc _⟩
  case round =>
    obtain ⟨k, C, hk, rfl, hB, hu⟩ := hrel
    by_cases hlt : k < xs.length
    · obtain ⟨g, off, A2, c2, rfl, _, _, hc0, hc1, hc2, hc3, b0, b1, b2, b3, _⟩ := atChange (h.up good_Change hu) hlt
      have hx := sz_le shChange xs hlt hn
      go_wp2_with fail
      refine (c_toChange _ xs[k] _ ⟨_, rfl, mkChange (x := xs[k]) b0 b1 b2 b3⟩ hx).mono ?_
      rintro e w1 ⟨cs, bl, rfl, ho, hnd, u1⟩
      obtain ⟨D2, d2, _, rfl, rfl, _, _, _, _⟩ := openOChange ho
      have hbk := hB.1.up u1
      have hC : C.size = xs.length * 4 := hB.2.1
      obtain ⟨o0, hm0⟩ : ∃ o, w1.cell? ⟨w.heap.size, k * 4, none⟩ = some o := by rw [hbk.cell]; exact ⟨_, Array.getElem?_eq_getElem (by omega)⟩
      have hf0 := hbk.frozen (k * 4)
      obtain ⟨o1, hm1⟩ : ∃ o, w1.cell? ⟨w.heap.size, k * 4 + 1, none⟩ = some o := by rw [hbk.cell]; exact ⟨_, Array.getElem?_eq_getElem (by omega)⟩
      have hf1 := hbk.frozen (k * 4 + 1)
      obtain ⟨o2, hm2⟩ : ∃ o, w1.cell? ⟨w.heap.size, k * 4 + 2, none⟩ = some o := by rw [hbk.cell]; exact ⟨_, Array.getElem?_eq_getElem (by omega)⟩
      have hf2 := hbk.frozen (k * 4 + 2)
      obtain ⟨o3, hm3⟩ : ∃ o, w1.cell? ⟨w.heap.size, k * 4 + 3, none⟩ = some o := by rw [hbk.cell]; exact ⟨_, Array.getElem?_eq_getElem (by omega)⟩
      have hf3 := hbk.frozen (k * 4 + 3)
      go_wp2_with fail
      go_roundw
      case rel => exact ⟨k + 1, _, by omega, by go_num, hB.push good_Change u1 ho hnd (List.getElem?_eq_getElem hlt) hlt (But.sets [_, _, _, _] _ _) (Bk.sets [_, _, _, _] hbk _), (hu.trans u1).sets (Nat.le_refl _) _ [_, _, _, _]⟩
      case measure => simp [intOf]; omega
    · obtain ⟨bl, hso, hnd⟩ := hB.done (c := xs.length) (by omega) (Nat.le_refl _) (by unfold maxLen; omega) (Nat.le_refl _)
      go_wp2
      go_ret
      exact ⟨_, _, bl, rfl, hso, hnd, hu⟩

theorem asmImage {w : World} {lo hi : Nat} {x0 : ByteArray} {x1 : List ByteArray} {D1 : Option Addr} {d1 : Nat} {x2 : Bool} {x3 : ByteArray} {x4 : Bool} {x5 : ByteArray} {bl1 : List Nat} (h0 : x0.size ≤ maxLen) (h1 : SO shS w lo hi D1 d1 x1 bl1) (h3 : x3.size ≤ maxLen) (h5 : x5.size ≤ maxLen) : shImage.own w lo hi [.string x0, .slice D1 x1.length d1, .bool x2, .string x3, .bool x4, .string x5] (x0, x1, x2, x3, x4, x5) (bl1) := by
  have h : shImage.own w lo hi [.string x0, .slice D1 x1.length d1, .bool x2, .string x3, .bool x4, .string x5] (x0, x1, x2, x3, x4, x5) _ := (mkO_P (a := shS) (x := (x0, x1, x2, x3, x4, x5)) good_S ⟨⟨rfl, h0⟩, rfl⟩ (mkO_P (a := (shL shS)) (x := (x1, x2, x3, x4, x5)) (good_L good_S) ⟨D1, d1, rfl, h1⟩ (mkO_P (a := shB) (x := (x2, x3, x4, x5)) good_B ⟨rfl, rfl⟩ (mkO_P (a := shS) (x := (x3, x4, x5)) good_S ⟨⟨rfl, h3⟩, rfl⟩ (mkO_P (a := shB) (x := (x4, x5)) good_B ⟨rfl, rfl⟩ ⟨⟨rfl, h5⟩, rfl⟩)))))
  simpa using h
set_option maxRecDepth 100000 in
set_option maxHeartbeats 4000000 in
theorem c_toImage (v : Value) (x : TImage) (w : World) (h : AV shImage w v x) (hn : shImage.sz x ≤ 1048576) :
    Calls Tryz.prog 42 #[v] w (ToV shImage x w) := by
  obtain ⟨cs, rfl, h⟩ := h
  obtain ⟨x0, x1, x2, x3, x4, x5⟩ := x
  have ho := openImage h
  try dsimp only at ho
  obtain ⟨A1, c1, rfl, b0, b1, b3, b5⟩ := ho
  have hs : shImage.sz (x0, x1, x2, x3, x4, x5) = x0.size + ((shL shS).sz x1 + (0 + (x3.size + (0 + (x5.size))))) := rfl
  have hl1 : (shL shS).sz x1 ≤ 1048576 := by omega
  clear hs hn
  go_enter Tryz.func42, Tryz.ntmps42
  go_wp2_with fail
  have vv0 : Up w (((w.alloc (.cells #[.string x0, .slice A1 x1.length c1, .bool x2, .string x3, .bool x4, .string x5] 59)).alloc (.cells #[.string ⟨#[]⟩, .slice none 0 0, .bool false, .string ⟨#[]⟩, .bool false, .string ⟨#[]⟩] 64)).alloc (.cells #[.string x0, .slice none 0 0, .bool false, .string ⟨#[]⟩, .bool false, .string ⟨#[]⟩] 64)) := (((Up.refl _).alloc _).alloc _).alloc _
  have ja0 : Bk (((w.alloc (.cells #[.string x0, .slice A1 x1.length c1, .bool x2, .string x3, .bool x4, .string x5] 59)).alloc (.cells #[.string ⟨#[]⟩, .slice none 0 0, .bool false, .string ⟨#[]⟩, .bool false, .string ⟨#[]⟩] 64)).alloc (.cells #[.string x0, .slice none 0 0, .bool false, .string ⟨#[]⟩, .bool false, .string ⟨#[]⟩] 64)) w.heap.size 59 #[.string x0, .slice A1 x1.length c1, .bool x2, .string x3, .bool x4, .string x5] := ((Bk.new _ _ _).alloc _).alloc _
  have jr0 : Bk (((w.alloc (.cells #[.string x0, .slice A1 x1.length c1, .bool x2, .string x3, .bool x4, .string x5] 59)).alloc (.cells #[.string ⟨#[]⟩, .slice none 0 0, .bool false, .string ⟨#[]⟩, .bool false, .string ⟨#[]⟩] 64)).alloc (.cells #[.string x0, .slice none 0 0, .bool false, .string ⟨#[]⟩, .bool false, .string ⟨#[]⟩] 64)) (w.heap.size + 1) 64 #[.string ⟨#[]⟩, .slice none 0 0, .bool false, .string ⟨#[]⟩, .bool false, .string ⟨#[]⟩] := by simpa using (Bk.new (w.alloc (.cells #[.string x0, .slice A1 x1.length c1, .bool x2, .string x3, .bool x4, .string x5] 59)) 64 #[.string ⟨#[]⟩, .slice none 0 0, .bool false, .string ⟨#[]⟩, .bool false, .string ⟨#[]⟩]).alloc (.cells #[.string x0, .slice none 0 0, .bool false, .string ⟨#[]⟩, .bool false, .string ⟨#[]⟩] 64)
  have jo0 : Bk (((w.alloc (.cells #[.string x0, .slice A1 x1.length c1, .bool x2, .string x3, .bool x4, .string x5] 59)).alloc (.cells #[.string ⟨#[]⟩, .slice none 0 0, .bool false, .string ⟨#[]⟩, .bool false, .string ⟨#[]⟩] 64)).alloc (.cells #[.string x0, .slice none 0 0, .bool false, .string ⟨#[]⟩, .bool false, .string ⟨#[]⟩] 64)) (w.heap.size + 1 + 1) 64 #[.string x0, .slice none 0 0, .bool false, .string ⟨#[]⟩, .bool false, .string ⟨#[]⟩] := by simpa using Bk.new ((w.alloc (.cells #[.string x0, .slice A1 x1.length c1, .bool x2, .string x3, .bool x4, .string x5] 59)).alloc (.cells #[.string ⟨#[]⟩, .slice none 0 0, .bool false, .string ⟨#[]⟩, .bool false, .string ⟨#[]⟩] 64)) 64 #[.string x0, .slice none 0 0, .bool false, .string ⟨#[]⟩, .bool false, .string ⟨#[]⟩]
  have sz0 : w.heap.size + 1 + 1 + 1 = (((w.alloc (.cells #[.string x0, .slice A1 x1.length c1, .bool x2, .string x3, .bool x4, .string x5] 59)).alloc (.cells #[.string ⟨#[]⟩, .slice none 0 0, .bool false, .string ⟨#[]⟩, .bool false, .string ⟨#[]⟩] 64)).alloc (.cells #[.string x0, .slice none 0 0, .bool false, .string ⟨#[]⟩, .bool false, .string ⟨#[]⟩] 64)).heap.size := by simp
  refine (c_toStringS _ _ _ _ (b1.up good_S vv0) hl1).mono ?_
  rintro e w1 ⟨D1, d1, bl1, rfl, o1, nd1, u1⟩
  have uu1 := vv0.trans u1
  have ka1 := ja0.up u1
  have kr1 := jr0.up u1
  have ko1 := jo0.up u1
  have zz1 := u1.size
  rw [← sz0] at zz1
  have s1_1 : SO shS w1 (w.heap.size + 1 + 1 + 1) w1.heap.size D1 d1 x1 bl1 := by rw [sz0]; exact o1
  have nn1 : (bl1).Nodup := nd1
  have mm1 : ∀ b ∈ bl1, b < w1.heap.size := fun b hb => (s1_1.in_ good_S b hb).2
  clear ja0 jr0 jo0 u1 o1
  have ga1_0 : w1.cell? ⟨w.heap.size, 0, none⟩ = some (.string x0) := ka1.cell 0
  have gr1_0 : w1.cell? ⟨w.heap.size + 1, 0, none⟩ = some (.string ⟨#[]⟩) := kr1.cell 0
  have go1_0 : w1.cell? ⟨w.heap.size + 1 + 1, 0, none⟩ = some (.string x0) := ko1.cell 0
  have fr1_0 := kr1.frozen 0
  have fo1_0 := ko1.frozen 0
  have ga1_1 : w1.cell? ⟨w.heap.size, 1, none⟩ = some (.slice A1 x1.length c1) := ka1.cell 1
  have gr1_1 : w1.cell? ⟨w.heap.size + 1, 1, none⟩ = some (.slice none 0 0) := kr1.cell 1
  have go1_1 : w1.cell? ⟨w.heap.size + 1 + 1, 1, none⟩ = some (.slice none 0 0) := ko1.cell 1
  have fr1_1 := kr1.frozen 1
  have fo1_1 := ko1.frozen 1
  have ga1_2 : w1.cell? ⟨w.heap.size, 2, none⟩ = some (.bool x2) := ka1.cell 2
  have gr1_2 : w1.cell? ⟨w.heap.size + 1, 2, none⟩ = some (.bool false) := kr1.cell 2
  have go1_2 : w1.cell? ⟨w.heap.size + 1 + 1, 2, none⟩ = some (.bool false) := ko1.cell 2
  have fr1_2 := kr1.frozen 2
  have fo1_2 := ko1.frozen 2
  have ga1_3 : w1.cell? ⟨w.heap.size, 3, none⟩ = some (.string x3) := ka1.cell 3
  have gr1_3 : w1.cell? ⟨w.heap.size + 1, 3, none⟩ = some (.string ⟨#[]⟩) := kr1.cell 3
  have go1_3 : w1.cell? ⟨w.heap.size + 1 + 1, 3, none⟩ = some (.string ⟨#[]⟩) := ko1.cell 3
  have fr1_3 := kr1.frozen 3
  have fo1_3 := ko1.frozen 3
  have ga1_4 : w1.cell? ⟨w.heap.size, 4, none⟩ = some (.bool x4) := ka1.cell 4
  have gr1_4 : w1.cell? ⟨w.heap.size + 1, 4, none⟩ = some (.bool false) := kr1.cell 4
  have go1_4 : w1.cell? ⟨w.heap.size + 1 + 1, 4, none⟩ = some (.bool false) := ko1.cell 4
  have fr1_4 := kr1.frozen 4
  have fo1_4 := ko1.frozen 4
  have ga1_5 : w1.cell? ⟨w.heap.size, 5, none⟩ = some (.string x5) := ka1.cell 5
  have gr1_5 : w1.cell? ⟨w.heap.size + 1, 5, none⟩ = some (.string ⟨#[]⟩) := kr1.cell 5
  have go1_5 : w1.cell? ⟨w.heap.size + 1 + 1, 5, none⟩ = some (.string ⟨#[]⟩) := ko1.cell 5
  have fr1_5 := kr1.frozen 5
  have fo1_5 := ko1.frozen 5
  go_wp2_with fail
  have z_1 := ((((((s1_1.set good_S (w.heap.size + 1 + 1) 1 [.slice D1 x1.length d1] (by omega)).set good_S (w.heap.size + 1 + 1) 2 [.bool x2] (by omega)).set good_S (w.heap.size + 1 + 1) 3 [.string x3] (by omega)).set good_S (w.heap.size + 1 + 1) 4 [.bool x4] (by omega)).set good_S (w.heap.size + 1 + 1) 5 [.string x5] (by omega)).set good_S (w.heap.size + 1) 0 [.string x0, .slice D1 x1.length d1, .bool x2, .string x3, .bool x4, .string x5] (by omega)).wide good_S (lo' := w.heap.size) (by omega) (Nat.le_refl _)
  have fu := ((((((uu1.sets (g := (w.heap.size + 1 + 1)) (by omega) 1 [.slice D1 x1.length d1]).sets (g := (w.heap.size + 1 + 1)) (by omega) 2 [.bool x2]).sets (g := (w.heap.size + 1 + 1)) (by omega) 3 [.string x3]).sets (g := (w.heap.size + 1 + 1)) (by omega) 4 [.bool x4]).sets (g := (w.heap.size + 1 + 1)) (by omega) 5 [.string x5]).sets (g := (w.heap.size + 1)) (by omega) 0 [.string x0, .slice D1 x1.length d1, .bool x2, .string x3, .bool x4, .string x5])
  refine bodyPost_ret (v := .agg #[.string x0, .slice D1 x1.length d1, .bool x2, .string x3, .bool x4, .string x5]) (by simp [results, Tryz.results42, go_sem, gr1_0, gr1_1, gr1_2, gr1_3, gr1_4, gr1_5]) rfl ?_
  exact ⟨[.string x0, .slice D1 x1.length d1, .bool x2, .string x3, .bool x4, .string x5], _, rfl, asmImage b0 z_1 b3 b5, by simpa using nn1, fu⟩

theorem info_Image : (Tryz.prog.info? 64).map (fun i => (i.zero, i.size, i.bytes)) = some (some (.agg #[.string ⟨#[]⟩, .slice none 0 0, .bool false, .string ⟨#[]⟩, .bool false, .string ⟨#[]⟩]), 6, 88) := by kernel_rfl
set_option maxHeartbeats 1000000 in
theorem c_toImageS (xs : List TImage) (A : Option Addr) (c : Nat) (w : World) (h : SRW shImage w A c xs) (hn : (shL shImage).sz xs ≤ 1048576) :
    Calls Tryz.prog 11 #[.slice A xs.length c] w (ToL shImage xs w) := by
  have hl : xs.length ≤ 1048576 := Nat.le_trans (Nat.le_add_right _ _) hn
  obtain ⟨i0, hi0, hz0, hz1, hz2⟩ := info_parts info_Image
  have hmk := fun W => run_make_rows (P := Tryz.prog) 34 64 i0 _ Tryz.underlying34 hi0 hz0 xs.length (by rw [hz2]; omega) (by omega) W
  rw [hz1] at hmk
  clear hi0 hz0 hz1 hz2
  obtain ⟨C0, hC0⟩ : ∃ C0, C0 = madeCells (Value.cells (.agg #[.string ⟨#[]⟩, .slice none 0 0, .bool false, .string ⟨#[]⟩, .bool false, .string ⟨#[]⟩])) (xs.length * 6) := ⟨_, rfl⟩
  rw [← hC0] at hmk
  have HB : Bld shImage w.heap.size (w.alloc (.cells C0 64)) w.heap.size 64 C0 xs.length xs 0 :=
    Bld.start (Nat.le_refl _) (Bk.new _ _ _) (by rw [hC0, size_madeCells]; rfl)
  clear hC0
  go_enter Tryz.func11, Tryz.ntmps11
  go_wp2
  go_loopw [4] (fun i wr => ∃ (k : Nat) (C : Array Value), k ≤ xs.length ∧ i = .int .i64 k ∧ Bld shImage w.heap.size wr w.heap.size 64 C xs.length xs k ∧ Up w wr) (fun i _ => xs.length - (intOf i).toNat)
  case atStart => exact ⟨0, C0, Nat.zero_le _, rfl, HB, (Up.refl _).alloc _⟩
  case round =>
    obtain ⟨k, C, hk, rfl, hB, hu⟩ := hrel
    by_cases hlt : k < xs.length
    · obtain ⟨g, off, A1, c1, rfl, _, _, hc0, hc1, hc2, hc3, hc4, hc5, b0, b1, b3, b5, _⟩ := atImage (h.up good_Image hu) hlt
      have hx := sz_le shImage xs hlt hn
      go_wp2_with fail
      refine (c_toImage _ xs[k] _ ⟨_, rfl, mkImage (x := xs[k]) b0 b1 b3 b5⟩ hx).mono ?_
      rintro e w1 ⟨cs, bl, rfl, ho, hnd, u1⟩
      obtain ⟨D1, d1, _, rfl, rfl, _, _, _, _⟩ := openOImage ho
      have hbk := hB.1.up u1
      have hC : C.size = xs.length * 6 := hB.2.1
      obtain ⟨o0, hm0⟩ : ∃ o, w1.cell? ⟨w.heap.size, k * 6, none⟩ = some o := by rw [hbk.cell]; exact ⟨_, Array.getElem?_eq_getElem (by omega)⟩
      have hf0 := hbk.frozen (k * 6)
      obtain ⟨o1, hm1⟩ : ∃ o, w1.cell? ⟨w.heap.size, k * 6 + 1, none⟩ = some o := by rw [hbk.cell]; exact ⟨_, Array.getElem?_eq_getElem (by omega)⟩
      have hf1 := hbk.frozen (k * 6 + 1)
      obtain ⟨o2, hm2⟩ : ∃ o, w1.cell? ⟨w.heap.size, k * 6 + 2, none⟩ = some o := by rw [hbk.cell]; exact ⟨_, Array.getElem?_eq_getElem (by omega)⟩
      have hf2 := hbk.frozen (k * 6 + 2)
      obtain ⟨o3, hm3⟩ : ∃ o, w1.cell? ⟨w.heap.size, k * 6 + 3, none⟩ = some o := by rw [hbk.cell]; exact ⟨_, Array.getElem?_eq_getElem (by omega)⟩
      have hf3 := hbk.frozen (k * 6 + 3)
      obtain ⟨o4, hm4⟩ : ∃ o, w1.cell? ⟨w.heap.size, k * 6 + 4, none⟩ = some o := by rw [hbk.cell]; exact ⟨_, Array.getElem?_eq_getElem (by omega)⟩
      have hf4 := hbk.frozen (k * 6 + 4)
      obtain ⟨o5, hm5⟩ : ∃ o, w1.cell? ⟨w.heap.size, k * 6 + 5, none⟩ = some o := by rw [hbk.cell]; exact ⟨_, Array.getElem?_eq_getElem (by omega)⟩
      have hf5 := hbk.frozen (k * 6 + 5)
      go_wp2_with fail
      go_roundw
      case rel => exact ⟨k + 1, _, by omega, by go_num, hB.push good_Image u1 ho hnd (List.getElem?_eq_getElem hlt) hlt (But.sets [_, _, _, _, _, _] _ _) (Bk.sets [_, _, _, _, _, _] hbk _), (hu.trans u1).sets (Nat.le_refl _) _ [_, _, _, _, _, _]⟩
      case measure => simp [intOf]; omega
    · obtain ⟨bl, hso, hnd⟩ := hB.done (c := xs.length) (by omega) (Nat.le_refl _) (by unfold maxLen; omega) (Nat.le_refl _)
      go_wp2
      go_ret
      exact ⟨_, _, bl, rfl, hso, hnd, hu⟩





end Go.Proofs.YtelioflobahchaaGreatDoor
