/-
  The reference's l19Drop: a tree with one place taken out.
-/
import Derived.Test.YtelioflobahchaaGreatDoorPn
import Derived.Deep.RegionHeld3
namespace Go.Proofs.YtelioflobahchaaGreatDoor
open Go.RowKit
set_option linter.unusedVariables false
set_option linter.unusedSimpArgs false

set_option maxRecDepth 100000 in
set_option maxHeartbeats 8000000 in
/-- The place is not there: the tree itself. -/
theorem c_l19DropN (x : TTree) (A0 : Option Addr) (c0 : Nat) (s : ByteArray) (ys : List ByteArray) (B : Option Addr) (d : Nat) (w : World) (b00 : SRW shNode w A0 c0 x) (k : SRW shS w B d ys) (hb : hasN x (s, ys) = false) :
    Calls Tryz.prog 39 #[.agg #[.slice A0 x.length c0], .string s, .slice B ys.length d] w (RetV (.agg #[.slice A0 x.length c0]) w) := by
  have hvv : AV shTree w (.agg #[.slice A0 x.length c0]) x := ⟨_, rfl, mkTree b00⟩
  have ka0 : Bk ((w.alloc (.cells #[.slice A0 x.length c0] 30)).alloc (.cells #[.slice none 0 0] 30)) w.heap.size 30 #[.slice A0 x.length c0] := (Bk.new _ _ _).alloc _
  have kr0 : Bk ((w.alloc (.cells #[.slice A0 x.length c0] 30)).alloc (.cells #[.slice none 0 0] 30)) (w.heap.size + 1) 30 #[.slice none 0 0] := by simpa using Bk.new (w.alloc (.cells #[.slice A0 x.length c0] 30)) 30 #[.slice none 0 0]
  have uu0 : Up w ((w.alloc (.cells #[.slice A0 x.length c0] 30)).alloc (.cells #[.slice none 0 0] 30)) := ((Up.refl w).alloc _).alloc _
  have ga0 := ka0.cell 0
  have ca := fun W (hW : Up w W) => c_l03At x _ s ys B d W (hvv.up good_Tree hW) (k.up good_S hW)
  have hp := posN_le x (s, ys)
  have hxc := b00.1
  have hcm := b00.2.1
  have hcm' := hcm
  unfold maxLen at hcm'
  have hlen := b00.len_le
  rw [hb] at ca
  have CA := Lib.hid ca
  clear ca
  generalize posN x (s, ys) = p at *
  go_enter Tryz.func39, Tryz.ntmps39
  go_wp2_with fail
  refine (CA.out _ uu0).mono ?_
  rintro e w1 ⟨rfl, u1⟩
  have ga1 : w1.cell? ⟨w.heap.size, 0, none⟩ = some (.slice A0 x.length c0) := (ka0.up u1).cell 0
  have kr1 := kr0.up u1
  have gr1 := kr1.cell 0
  have fr1 := kr1.frozen 0
  go_wp2_with fail
  refine bodyPost_ret (v := .agg #[.slice A0 x.length c0]) (by simp [results, Tryz.results39, go_sem, gr1]) rfl ?_
  exact ⟨rfl, (uu0.trans u1).setCell (by simp) _⟩
set_option maxRecDepth 100000 in
set_option maxHeartbeats 8000000 in
/-- The place is there: a new tree without it. -/
theorem c_l19DropY (x : TTree) (A0 : Option Addr) (c0 : Nat) (s : ByteArray) (ys : List ByteArray) (B : Option Addr) (d : Nat) (w : World) (b00 : SRW shNode w A0 c0 x) (k : SRW shS w B d ys) (hx : x.length ≤ 1000000) (hl : ∀ i (h : i < x.length), x[i].2.1.length ≤ 1048576) (hb : hasN x (s, ys) = true) :
    Calls Tryz.prog 39 #[.agg #[.slice A0 x.length c0], .string s, .slice B ys.length d] w (ToV shTree (dropT x (s, ys)) w) := by
  obtain ⟨i0, hi0, hz0, hz1, hz2⟩ := info_parts cinfo_Node
  have hvv : AV shTree w (.agg #[.slice A0 x.length c0]) x := ⟨_, rfl, mkTree b00⟩
  have ka0 : Bk ((w.alloc (.cells #[.slice A0 x.length c0] 30)).alloc (.cells #[.slice none 0 0] 30)) w.heap.size 30 #[.slice A0 x.length c0] := (Bk.new _ _ _).alloc _
  have kr0 : Bk ((w.alloc (.cells #[.slice A0 x.length c0] 30)).alloc (.cells #[.slice none 0 0] 30)) (w.heap.size + 1) 30 #[.slice none 0 0] := by simpa using Bk.new (w.alloc (.cells #[.slice A0 x.length c0] 30)) 30 #[.slice none 0 0]
  have uu0 : Up w ((w.alloc (.cells #[.slice A0 x.length c0] 30)).alloc (.cells #[.slice none 0 0] 30)) := ((Up.refl w).alloc _).alloc _
  have ga0 := ka0.cell 0
  have ca := fun W (hW : Up w W) => c_l03At x _ s ys B d W (hvv.up good_Tree hW) (k.up good_S hW)
  have hp := posN_le x (s, ys)
  have hxc := b00.1
  have hcm := b00.2.1
  have hcm' := hcm
  unfold maxLen at hcm'
  have hlen := b00.len_le
  have hd : dropT x (s, ys) = x.take (posN x (s, ys)) ++ x.drop (posN x (s, ys) + 1) := by unfold dropT; rw [if_pos hb]
  have HR : Hid (dropT x (s, ys) = x.take (posN x (s, ys)) ++ x.drop (posN x (s, ys) + 1)) := hd
  have hmul1 : (x.length + 2) * i0.bytes ≤ 140737488355328 := by rw [hz2]; omega
  rw [hb] at ca
  obtain ⟨hq, _⟩ := has_at hb
  have CA := Lib.hid ca
  clear ca hb hd
  generalize posN x (s, ys) = p at *
  obtain ⟨X1, hX1⟩ : ∃ X1, X1 = x.take p := ⟨_, rfl⟩
  obtain ⟨X2, hX2⟩ : ∃ X2, X2 = x.drop (p + 1) := ⟨_, rfl⟩
  have hl1 : X1.length = p := by rw [hX1, List.length_take]; omega
  have hl2 : X2.length = x.length - (p + 1) := by rw [hX2, List.length_drop]
  have S1 : ∀ W, Up w W → SRW (shRef w shNode) W A0 c0 X1 := fun W hW => by rw [hX1]; exact (b00.take hp).ref hW
  have S2 : ∀ g off, A0 = some ⟨g, off, none⟩ → ∀ W, Up w W → SRW (shRef w shNode) W (some ⟨g, off + (p + 1) * 3, none⟩) (c0 - (p + 1)) X2 := fun g off hA W hW => by
    subst hA
    rw [hX2]; exact (b00.dropN (by omega)).ref hW
  have S3 : X2.length = 0 → ∀ (A2 : Option Addr) (c2 : Nat), c2 ≤ maxLen → ∀ W, Up w W → SRW (shRef w shNode) W A2 c2 X2 := fun h0 A2 c2 hc W _ => by rw [List.eq_nil_of_length_eq_zero h0]; exact SR.dropAll hc
  have HL2 : Hid (∀ i (h : i < (X1 ++ X2).length), (X1 ++ X2)[i].2.1.length ≤ 1048576) := fun i hi => by
    have hm := List.getElem_mem hi
    generalize (X1 ++ X2)[i] = n at hm
    rcases List.mem_append.1 hm with hm | hm
    · rw [hX1] at hm
      obtain ⟨j, hj, rfl⟩ := List.getElem_of_mem (List.mem_of_mem_take hm)
      exact hl j hj
    · rw [hX2] at hm
      obtain ⟨j, hj, rfl⟩ := List.getElem_of_mem (List.mem_of_mem_drop hm)
      exact hl j hj
  rw [← hX1, ← hX2] at HR
  obtain ⟨L, hL⟩ : ∃ L, L = X1 ++ X2 := ⟨_, rfl⟩
  rw [← hL] at HR HL2
  have hLl : L.length = p + (x.length - (p + 1)) := by rw [hL, List.length_append]; omega
  have HLL := Lib.hid hL
  have HLN := Lib.hid hLl
  clear hX1 hX2 hl
  have hb1 : X1.length * i0.bytes ≤ 140737488355328 := Nat.le_trans (Nat.mul_le_mul_right _ (by omega)) hmul1
  have hb3 : (X1.length + X2.length) * i0.bytes ≤ 140737488355328 := Nat.le_trans (Nat.mul_le_mul_right _ (by omega)) hmul1
  have hm3 : X1.length + X2.length ≤ maxLen := by unfold maxLen; omega
  have htl : L.length ≤ 1000000 := by omega
  clear hL hLl
  have gR := good_Ref (w0 := w) good_Node
  have hpi : ¬ (x.length : Int) < (p : Int) := by omega
  have hpj : ¬ (x.length : Int) < (p : Int) + 1 := by omega
  have hps : (p : Int) + 1 ≤ (x.length : Int) := by omega
  have hpt : (p : Int) ≤ (x.length : Int) := by omega
  have hpc : (p : Int) ≤ (c0 : Int) := by omega
  have hp0 : (0 : Int) ≤ (p : Int) := by omega
  have hp1 : (0 : Int) ≤ (p : Int) + 1 := by omega
  have hwr : IntKind.i64.wrap ((p : Int) + 1) = (p : Int) + 1 := IntWalk.i64_in _ (by omega)
  obtain ⟨g, off, rfl, hgo⟩ := b00.2.2 (by omega)
  clear hgo
  by_cases hcq : c0 = p + 1
  · subst hcq
    have hpc2 : (p : Int) ≤ (p : Int) + 1 := by omega
    have hpc3 : ¬ ((p : Int) + 1 < (p : Int)) := by omega
    have hz2 : X2.length = 0 := by omega
    have HLM : Hid (L.length = p) := by unfold Hid; rw [HLN.out]; omega
    go_enter Tryz.func39, Tryz.ntmps39
    go_wp2_with fail
    refine (CA.out _ uu0).mono ?_
    rintro e w1 ⟨rfl, u1⟩
    have ka1 := ka0.up u1
    have kr1 := kr0.up u1
    have ga1 : w1.cell? ⟨w.heap.size, 0, none⟩ = some (.slice (some ⟨g, off, none⟩) x.length (p + 1)) := ka1.cell 0
    have uu1 : Up w (w1.drew.alloc (.cells #[] 79)) := ((uu0.trans u1).drew).alloc _
    have hw1 : w.heap.size + 2 ≤ w1.heap.size := by have := u1.size; simp at this; omega
    go_wp2_with fail
    go_region_held3 (fun W => W.cell? ⟨w.heap.size, 0, none⟩ = some (.slice (some ⟨g, off, none⟩) x.length (p + 1)))
      (first | exact ka1.drew.cell 0 | exact (ka1.drew.alloc _).cell 0 | exact ka2.cell 0 | exact ka4.cell 0 | exact ka5.cell 0 | exact (ka5.far (p := ⟨w.heap.size + 1, 0, none⟩) (Nat.ne_of_lt (Nat.lt_succ_self _)) _).cell 0)
      (first
        | (go_at_call 38
           refine co.mono ?_
           rintro e w5 ⟨D4, d4, bl4, rfl, o4, nd4, u5⟩
           have ka5 := ka4.up u5
           have kr5 := kr4.up u5
           have gr5 : w5.cell? ⟨w.heap.size + 1, 0, none⟩ = some (.slice none 0 0) := kr5.cell 0
           have fr5 : w5.frozen? ⟨w.heap.size + 1, 0, none⟩ = false := kr5.frozen 0)
        | (refine step_app_new (good_Ref (w0 := w) good_Node) flat_Ref rfl _ _ _ 79 rfl i0 _ Tryz.underlying28 hi0 hz0 hz1 (by rfl) rfl (by rw [hl1]; rfl) (S1 _ uu1) hb1 ?_
           intro D1 d1 bl1 w2 so1 nd1 u2
           have hin1 : ∀ y ∈ bl1, w.heap.size + 3 ≤ y := fun y hy => by have := (so1.in_ gR y hy).1; simp at this; omega
           have so1' := so1.wide gR (lo' := w.heap.size) (by simp; omega) (Nat.le_refl _)
           have ka2 := ((ka1.drew).alloc (.cells #[] 79)).up u2
           have kr2 := ((kr1.drew).alloc (.cells #[] 79)).up u2
           have uu2 := uu1.trans u2
           obtain ⟨news, hsrc, hrw⟩ := (S3 (by omega) (some ⟨g, off, none⟩) 0 (Nat.zero_le _) w2 uu2).src (lo := w.heap.size) (hi := w2.heap.size) gR flat_Ref (e' := 79) (tx := 28) Tryz.underlying28 (n := i0.size) hz1
           have nd1' : (bl1 ++ (List.replicate X2.length ([] : List Nat)).flatten).Nodup := by simpa using nd1)
        | (refine step_app (good_Ref (w0 := w) good_Node) rfl _ _ _ _ 79 rfl i0 _ Tryz.underlying28 hi0 hz0 hz1 (by rfl) (lo := w.heap.size) (xs := X1) (ys := X2) (bl := bl1) (bs := List.replicate X2.length []) (news := news) (by rw [hl1]; rfl) (by rw [hz2]; rfl) so1' nd1' hsrc hrw uu2.size hb3 hm3 ?_
           intro D3 d3 bl3 w4 hap
           obtain ⟨so3, nd3, mem3, on3⟩ := hap
           have ka4 := ka2.only on3 (fun hm => by have := hin1 _ hm; omega)
           have kr4 := kr2.only on3 (fun hm => by have := hin1 _ hm; omega)
           have uu4 : Up w w4 := Up.only uu2 on3 (fun y hy => by have := hin1 _ hy; omega)
           have sr4 := SR.unref good_Node (so3.rep gR) uu4
           rw [← HLL.out] at sr4
           have co := c_l03Own L D3 d3 w4 sr4 htl HL2.out
           rw [HLM.out] at co))
    have hw4 := uu4.size
    have hk4 := kr4.lt
    go_wp2_with fail
    have z4 := (o4.set good_Node (w.heap.size + 1) 0 [.slice D4 L.length d4] (by omega)).wide good_Node (lo' := w.heap.size) (by omega) (Nat.le_refl _)
    refine bodyPost_ret (v := .agg #[.slice D4 L.length d4]) (by simp [results, Tryz.results39, go_sem, gr5]) rfl ?_
    rw [HR.out]
    exact ⟨[.slice D4 L.length d4], bl4, rfl, mkOTree z4, nd4, (uu4.trans u5).setCell (by simp) _⟩
  · have hs2 := S2 g off rfl
    go_enter Tryz.func39, Tryz.ntmps39
    go_wp2_with fail
    refine (CA.out _ uu0).mono ?_
    rintro e w1 ⟨rfl, u1⟩
    have ka1 := ka0.up u1
    have kr1 := kr0.up u1
    have ga1 : w1.cell? ⟨w.heap.size, 0, none⟩ = some (.slice (some ⟨g, off, none⟩) x.length c0) := ka1.cell 0
    have uu1 : Up w (w1.drew.alloc (.cells #[] 79)) := ((uu0.trans u1).drew).alloc _
    have hw1 : w.heap.size + 2 ≤ w1.heap.size := by have := u1.size; simp at this; omega
    go_wp2_with fail
    go_region_held3 (fun W => W.cell? ⟨w.heap.size, 0, none⟩ = some (.slice (some ⟨g, off, none⟩) x.length c0))
      (first | exact ka1.drew.cell 0 | exact (ka1.drew.alloc _).cell 0 | exact ka2.cell 0 | exact ka4.cell 0 | exact ka5.cell 0 | exact (ka5.far (p := ⟨w.heap.size + 1, 0, none⟩) (Nat.ne_of_lt (Nat.lt_succ_self _)) _).cell 0)
      (first
        | (go_at_call 38
           refine co.mono ?_
           rintro e w5 ⟨D4, d4, bl4, rfl, o4, nd4, u5⟩
           have ka5 := ka4.up u5
           have kr5 := kr4.up u5
           have gr5 : w5.cell? ⟨w.heap.size + 1, 0, none⟩ = some (.slice none 0 0) := kr5.cell 0
           have fr5 : w5.frozen? ⟨w.heap.size + 1, 0, none⟩ = false := kr5.frozen 0)
        | (refine step_app_new (good_Ref (w0 := w) good_Node) flat_Ref rfl _ _ _ 79 rfl i0 _ Tryz.underlying28 hi0 hz0 hz1 (by rfl) rfl (by rw [hl1]; rfl) (S1 _ uu1) hb1 ?_
           intro D1 d1 bl1 w2 so1 nd1 u2
           have hin1 : ∀ y ∈ bl1, w.heap.size + 3 ≤ y := fun y hy => by have := (so1.in_ gR y hy).1; simp at this; omega
           have so1' := so1.wide gR (lo' := w.heap.size) (by simp; omega) (Nat.le_refl _)
           have ka2 := ((ka1.drew).alloc (.cells #[] 79)).up u2
           have kr2 := ((kr1.drew).alloc (.cells #[] 79)).up u2
           have uu2 := uu1.trans u2
           obtain ⟨news, hsrc, hrw⟩ := (hs2 w2 uu2).src (lo := w.heap.size) (hi := w2.heap.size) gR flat_Ref (e' := 79) (tx := 28) Tryz.underlying28 (n := i0.size) hz1
           have nd1' : (bl1 ++ (List.replicate X2.length ([] : List Nat)).flatten).Nodup := by simpa using nd1)
        | (refine step_app (good_Ref (w0 := w) good_Node) rfl _ _ _ _ 79 rfl i0 _ Tryz.underlying28 hi0 hz0 hz1 (by rfl) (lo := w.heap.size) (xs := X1) (ys := X2) (bl := bl1) (bs := List.replicate X2.length []) (news := news) (by rw [hl1]; rfl) (by rw [hl2]; rfl) so1' nd1' hsrc hrw uu2.size hb3 hm3 ?_
           intro D3 d3 bl3 w4 hap
           obtain ⟨so3, nd3, mem3, on3⟩ := hap
           have ka4 := ka2.only on3 (fun hm => by have := hin1 _ hm; omega)
           have kr4 := kr2.only on3 (fun hm => by have := hin1 _ hm; omega)
           have uu4 : Up w w4 := Up.only uu2 on3 (fun y hy => by have := hin1 _ hy; omega)
           have sr4 := SR.unref good_Node (so3.rep gR) uu4
           rw [← HLL.out] at sr4
           have co := c_l03Own L D3 d3 w4 sr4 htl HL2.out
           rw [HLN.out] at co))
    have hw4 := uu4.size
    have hk4 := kr4.lt
    go_wp2_with fail
    have z4 := (o4.set good_Node (w.heap.size + 1) 0 [.slice D4 L.length d4] (by omega)).wide good_Node (lo' := w.heap.size) (by omega) (Nat.le_refl _)
    refine bodyPost_ret (v := .agg #[.slice D4 L.length d4]) (by simp [results, Tryz.results39, go_sem, gr5]) rfl ?_
    rw [HR.out]
    exact ⟨[.slice D4 L.length d4], bl4, rfl, mkOTree z4, nd4, (uu4.trans u5).setCell (by simp) _⟩
end Go.Proofs.YtelioflobahchaaGreatDoor
