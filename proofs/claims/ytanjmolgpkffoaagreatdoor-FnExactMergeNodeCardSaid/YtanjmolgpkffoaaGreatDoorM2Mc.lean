/-
  MergeNode: both sides.
-/
import Derived.Test.YtanjmolgpkffoaaGreatDoorM2Mb
import Derived.Test.YtanjmolgpkffoaaGreatDoorM2Km
import Derived.Deep.RegionHeld3
namespace Go.Proofs.YtanjmolgpkffoaaGreatDoor
open Go.RowKit
set_option linter.unusedVariables false
set_option linter.unusedSimpArgs false

theorem cbg_MergeNode (x : TTree) (hn : shTree.sz x ≤ 1048576) (s : ByteArray) (hs : s.size ≤ 1048576) (ys : List ByteArray) (hy : (shL shS).sz ys ≤ 1048576) (f : ByteArray) (hf : f.size ≤ 1048576) (zs : List ByteArray) (hz : (shL shS).sz zs ≤ 1048576) : (1 : Int) + (mmTTree.cnt (mergeP x s ys f zs).1 : Nat) ≤ 1000000000 := by
  have := cnt_right (mergeP_P (s := s) (ys := ys) (f := f) (zs := zs) x)
  omega
theorem merge_no {x : TTree} {s f : ByteArray} {ys zs : List ByteArray} (h : ¬ (treeB x = true ∧ placeB s ys = true ∧ placeB f zs = true)) : Hid (mergeP x s ys f zs = ([], 1)) := by unfold Hid mergeP; rw [if_neg h]
theorem merge_yes {x : TTree} {s f : ByteArray} {ys zs : List ByteArray} (h : treeB x = true ∧ placeB s ys = true ∧ placeB f zs = true) : Hid (mergeP x s ys f zs = mgR x s ys f zs) := by unfold Hid mergeP; rw [if_pos h]
set_option maxRecDepth 100000 in
set_option maxHeartbeats 8000000 in
theorem ci_MergeNode (v : Value) (x : TTree) (s : ByteArray) (B : Option Addr) (d : Nat) (ys : List ByteArray) (f : ByteArray) (B' : Option Addr) (d' : Nat) (zs : List ByteArray) (w : World) (h : AV shTree w v x) (hn : shTree.sz x ≤ 1048576) (hs : s.size ≤ maxLen) (hs2 : s.size ≤ 1048576) (k : SRW shS w B d ys) (hy : (shL shS).sz ys ≤ 1048576) (hf : f.size ≤ maxLen) (hf2 : f.size ≤ 1048576) (k' : SRW shS w B' d' zs) (hz : (shL shS).sz zs ≤ 1048576) (htab : Tab w) :
    Calls Tryz.prog 35 #[v, .string s, .slice B ys.length d, .string f, .slice B' zs.length d'] w (ToR shTree (mergeP x s ys f zs).1 (mergeP x s ys f zs).2 w) := by
  have hvv := h
  obtain ⟨cs, rfl, h⟩ := h
  obtain ⟨A0, c0, rfl, b00⟩ := openTree h
  clear h
  obtain ⟨W0, hW0⟩ : ∃ W0, W0 = ((w.alloc (.cells #[.slice A0 x.length c0] 32)).alloc (.cells #[.slice none 0 0] 32)) := ⟨_, rfl⟩
  have u0 : Up w W0 := by rw [hW0]; exact ((Up.refl w).alloc _).alloc _
  have ka0 : Bk W0 w.heap.size 32 #[.slice A0 x.length c0] := by rw [hW0]; exact (Bk.new _ _ _).alloc _
  have kr0 : Bk W0 (w.heap.size + 1) 32 #[.slice none 0 0] := by rw [hW0]; simpa using Bk.new (w.alloc (.cells #[.slice A0 x.length c0] 32)) 32 #[.slice none 0 0]
  have hs0 : W0.heap.size = w.heap.size + 2 := by rw [hW0]; simp
  have ct := fun W (hW : Up w W) => c_implTreeOk _ x W (hvv.up good_Tree hW) hn (tab_up htab hW)
  have c1 := fun W (hW : Up w W) => c_locationOk s ys B d W hs (k.up good_S hW)
  have c2 := fun W (hW : Up w W) => c_locationOk f zs B' d' W hf (k'.up good_S hW)
  cases ht : treeB x
  · rw [ht] at ct
    have HD := merge_no (x := x) (s := s) (ys := ys) (f := f) (zs := zs) (by rw [ht]; simp)
    have C0 := Lib.hid ct
    clear ct c1 c2 ht
    go_enter Tryz.func35, Tryz.ntmps35
    go_wp2_with fail
    rw [← hW0]
    refine (C0.out _ u0).mono ?_
    rintro e w1 ⟨rfl, u1⟩
    have kr1 := kr0.up u1
    have gr1 := kr1.cell 0
    have fr1 := kr1.frozen 0
    clear hW0
    go_wp2_with fail
    refine bodyPost_ret (v := .tuple #[.agg #[.slice none 0 0], .int .i64 1]) (by simp [results, Tryz.results35, go_sem, gr1]) rfl ?_
    rw [HD.out]
    exact zeroTree _ _ _ ((u0.trans u1).setCell (by simp) _)
  rw [ht] at ct
  have C0 := Lib.hid ct
  cases h1 : placeB s ys
  · rw [h1] at c1
    have HD := merge_no (x := x) (s := s) (ys := ys) (f := f) (zs := zs) (by rw [h1]; simp)
    have C1 := Lib.hid c1
    clear ct c1 c2 ht h1
    go_enter Tryz.func35, Tryz.ntmps35
    go_wp2_with fail
    rw [← hW0]
    refine (C0.out _ u0).mono ?_
    rintro e w1 ⟨rfl, u1⟩
    go_wp2_with fail
    refine (C1.out _ (u0.trans u1)).mono ?_
    rintro e w2 ⟨rfl, u2⟩
    have kr1 := kr0.up (u1.trans u2)
    have gr1 := kr1.cell 0
    have fr1 := kr1.frozen 0
    clear hW0
    go_wp2_with fail
    refine bodyPost_ret (v := .tuple #[.agg #[.slice none 0 0], .int .i64 1]) (by simp [results, Tryz.results35, go_sem, gr1]) rfl ?_
    rw [HD.out]
    exact zeroTree _ _ _ (((u0.trans u1).trans u2).setCell (by simp) _)
  rw [h1] at c1
  have C1 := Lib.hid c1
  cases h2 : placeB f zs
  · rw [h2] at c2
    have HD := merge_no (x := x) (s := s) (ys := ys) (f := f) (zs := zs) (by rw [h2]; simp)
    have C2 := Lib.hid c2
    clear ct c1 c2 ht h1 h2
    go_enter Tryz.func35, Tryz.ntmps35
    go_wp2_with fail
    rw [← hW0]
    refine (C0.out _ u0).mono ?_
    rintro e w1 ⟨rfl, u1⟩
    go_wp2_with fail
    refine (C1.out _ (u0.trans u1)).mono ?_
    rintro e w2 ⟨rfl, u2⟩
    go_wp2_with fail
    refine (C2.out _ ((u0.trans u1).trans u2)).mono ?_
    rintro e w3 ⟨rfl, u3⟩
    have kr1 := kr0.up ((u1.trans u2).trans u3)
    have gr1 := kr1.cell 0
    have fr1 := kr1.frozen 0
    clear hW0
    go_wp2_with fail
    refine bodyPost_ret (v := .tuple #[.agg #[.slice none 0 0], .int .i64 1]) (by simp [results, Tryz.results35, go_sem, gr1]) rfl ?_
    rw [HD.out]
    exact zeroTree _ _ _ ((((u0.trans u1).trans u2).trans u3).setCell (by simp) _)
  rw [h2] at c2
  have C2 := Lib.hid c2
  have HD := merge_yes ⟨ht, h1, h2⟩
  have hTP := treeP_of ht
  have HTP := Lib.hid hTP
  have H1 := Lib.hid h1
  have H2 := Lib.hid h2
  have cc := fun W (hW : Up w W) => c_copyTree _ x W (hvv.up good_Tree hW) (by have := hTP.1; omega) (treeP_subs hTP)
  have CC := Lib.hid cc
  clear cc ct c1 c2 ht h1 h2 hTP
  go_enter Tryz.func35, Tryz.ntmps35
  go_wp2_with fail
  rw [← hW0]
  refine (C0.out _ u0).mono ?_
  rintro e w1a ⟨rfl, u1a⟩
  go_wp2_with fail
  refine (C1.out _ (u0.trans u1a)).mono ?_
  rintro e w1b ⟨rfl, u1b⟩
  go_wp2_with fail
  refine (C2.out _ ((u0.trans u1a).trans u1b)).mono ?_
  rintro e w1 ⟨rfl, u1c⟩
  have u1 := (u1a.trans u1b).trans u1c
  have kr1 := kr0.up u1
  have ga1 : w1.cell? ⟨w.heap.size, 0, none⟩ = some (.slice A0 x.length c0) := (ka0.up u1).cell 0
  have uu1 := u0.trans u1
  have hk1 := kr1.lt
  clear hW0
  go_wp2_with fail
  refine (CC.out _ uu1).mono ?_
  rintro e w2 ⟨cs2, bl2, rfl, o2, nd2, u2⟩
  obtain ⟨D2, d2, _, rfl, rfl, o4⟩ := openOTree o2
  have u2a : Up w2 (w2.alloc (.cells #[.slice D2 x.length d2] 32)) := (Up.refl w2).alloc _
  have kr2 := (kr1.up u2).up u2a
  have hin2 := o4.in_ good_Node
  have hot : OT w1.heap.size (w2.alloc (.cells #[.slice D2 x.length d2] 32)) w2.heap.size x bl2 := ⟨D2, d2, Bk.new _ _ _, o4.up good_Node u2a, nd2, fun hm => by have := (hin2 _ hm).2; omega⟩
  have hw1 : w.heap.size + 2 ≤ w1.heap.size := by have := u1.size; omega
  have hw2 : w1.heap.size ≤ w2.heap.size := u2.size
  have cr := c_merge w1 w2.heap.size x bl2 _ hot (u2.trans u2a) hw2 HTP.out s ys B d (k.up good_S uu1) f zs B' d' (k'.up good_S uu1) H1.out H2.out hs hf (tab_up htab uu1)
  have CR := Lib.hid cr
  clear cr
  go_wp2_with fail
  refine CR.out.mono ?_
  rintro e w3 ⟨y, rfl, op3, hy⟩
  have u3 : Up w1 w3 := op3.upw (u2.trans u2a) hw2 (fun y hy => (hin2 y hy).1)
  obtain ⟨bl3, ⟨A3, c3, hk3, so3, nd3, hg3⟩, mem3, on3⟩ := op3
  have uu3 := uu1.trans u3
  have kr3 := kr1.up u3
  have gr3 := kr3.cell 0
  have fr3 := kr3.frozen 0
  have gx3 := hk3.cell 0
  by_cases hq : (mgR x s ys f zs).2 = 0
  · have HY := Lib.hid (hy hq)
    have HQ := Lib.hid hq
    rw [hq]
    clear hy hq
    go_wp2_with fail
    have z4 := (so3.set good_Node (w.heap.size + 1) 0 [.slice A3 y.length c3] (by omega)).wide good_Node (lo' := w.heap.size) (by omega) (Nat.le_refl _)
    refine bodyPost_ret (v := .tuple #[.agg #[.slice A3 y.length c3], .int .i64 0]) (by simp [results, Tryz.results35, go_sem, gr3]) rfl ?_
    rw [HD.out, HQ.out, ← HY.out]
    exact ⟨[.slice A3 y.length c3], _, rfl, mkOTree z4, nd3, uu3.setCell (by simp) _⟩
  · have HE := Lib.hid (mgR_code x hq)
    obtain ⟨q, hqe⟩ : ∃ q, q = (mgR x s ys f zs).2 := ⟨_, rfl⟩
    have hq0 : (q != 0) = true := by rw [hqe]; simpa using hq
    have HQ := Lib.hid hqe
    rw [← hqe]
    clear hy hq hqe
    go_wp2_with fail
    refine bodyPost_ret (v := .tuple #[.agg #[.slice none 0 0], .int .i64 q]) (by simp [results, Tryz.results35, go_sem, gr3]) rfl ?_
    rw [HD.out, HE.out, ← HQ.out]
    exact zeroTree _ _ _ (uu3.setCell (by simp) _)
set_option maxRecDepth 100000 in
set_option maxHeartbeats 8000000 in
theorem cs_MergeNode (v : Value) (x : TTree) (s : ByteArray) (B : Option Addr) (d : Nat) (ys : List ByteArray) (f : ByteArray) (B' : Option Addr) (d' : Nat) (zs : List ByteArray) (w : World) (h : AV shTree w v x) (hn : shTree.sz x ≤ 1048576) (hs : s.size ≤ maxLen) (hs2 : s.size ≤ 1048576) (k : SRW shS w B d ys) (hy : (shL shS).sz ys ≤ 1048576) (hf : f.size ≤ maxLen) (hf2 : f.size ≤ 1048576) (k' : SRW shS w B' d' zs) (hz : (shL shS).sz zs ≤ 1048576) :
    Calls Tryz.prog 34 #[v, .string s, .slice B ys.length d, .string f, .slice B' zs.length d'] w (RpR shTree (mergeP x s ys f zs).1 (mergeP x s ys f zs).2 w) := by
  have hvv := h
  obtain ⟨cs, rfl, h⟩ := h
  obtain ⟨A0, c0, rfl, b00⟩ := openTree h
  clear h
  obtain ⟨W0, hW0⟩ : ∃ W0, W0 = ((w.alloc (.cells #[.slice A0 x.length c0] 32)).alloc (.cells #[.slice none 0 0] 32)) := ⟨_, rfl⟩
  have u0 : Up w W0 := by rw [hW0]; exact ((Up.refl w).alloc _).alloc _
  have ka0 : Bk W0 w.heap.size 32 #[.slice A0 x.length c0] := by rw [hW0]; exact (Bk.new _ _ _).alloc _
  have kr0 : Bk W0 (w.heap.size + 1) 32 #[.slice none 0 0] := by rw [hW0]; simpa using Bk.new (w.alloc (.cells #[.slice A0 x.length c0] 32)) 32 #[.slice none 0 0]
  have hs0 : W0.heap.size = w.heap.size + 2 := by rw [hW0]; simp
  have ct := fun W (hW : Up w W) => c_specTreeOk _ x W (hvv.up good_Tree hW) hn
  have c1 := fun W (hW : Up w W) => c_l03Place s ys B d W hs (k.up good_S hW)
  have c2 := fun W (hW : Up w W) => c_l03Place f zs B' d' W hf (k'.up good_S hW)
  cases ht : treeB x
  · rw [ht] at ct
    have HD := merge_no (x := x) (s := s) (ys := ys) (f := f) (zs := zs) (by rw [ht]; simp)
    have C0 := Lib.hid ct
    clear ct c1 c2 ht
    go_enter Tryz.func34, Tryz.ntmps34
    go_wp2_with fail
    rw [← hW0]
    refine (C0.out _ u0).mono ?_
    rintro e w1 ⟨rfl, u1⟩
    have kr1 := kr0.up u1
    have gr1 := kr1.cell 0
    have fr1 := kr1.frozen 0
    clear hW0
    go_wp2_with fail
    refine bodyPost_ret (v := .tuple #[.agg #[.slice none 0 0], .int .i64 1]) (by simp [results, Tryz.results34, go_sem, gr1]) rfl ?_
    rw [HD.out]
    exact ToR.rp good_Tree (zeroTree _ _ _ ((u0.trans u1).setCell (by simp) _))
  rw [ht] at ct
  have C0 := Lib.hid ct
  cases h1 : placeB s ys
  · rw [h1] at c1
    have HD := merge_no (x := x) (s := s) (ys := ys) (f := f) (zs := zs) (by rw [h1]; simp)
    have C1 := Lib.hid c1
    clear ct c1 c2 ht h1
    go_enter Tryz.func34, Tryz.ntmps34
    go_wp2_with fail
    rw [← hW0]
    refine (C0.out _ u0).mono ?_
    rintro e w1 ⟨rfl, u1⟩
    go_wp2_with fail
    refine (C1.out _ (u0.trans u1)).mono ?_
    rintro e w2 ⟨rfl, u2⟩
    have kr1 := kr0.up (u1.trans u2)
    have gr1 := kr1.cell 0
    have fr1 := kr1.frozen 0
    clear hW0
    go_wp2_with fail
    refine bodyPost_ret (v := .tuple #[.agg #[.slice none 0 0], .int .i64 1]) (by simp [results, Tryz.results34, go_sem, gr1]) rfl ?_
    rw [HD.out]
    exact ToR.rp good_Tree (zeroTree _ _ _ (((u0.trans u1).trans u2).setCell (by simp) _))
  rw [h1] at c1
  have C1 := Lib.hid c1
  cases h2 : placeB f zs
  · rw [h2] at c2
    have HD := merge_no (x := x) (s := s) (ys := ys) (f := f) (zs := zs) (by rw [h2]; simp)
    have C2 := Lib.hid c2
    clear ct c1 c2 ht h1 h2
    go_enter Tryz.func34, Tryz.ntmps34
    go_wp2_with fail
    rw [← hW0]
    refine (C0.out _ u0).mono ?_
    rintro e w1 ⟨rfl, u1⟩
    go_wp2_with fail
    refine (C1.out _ (u0.trans u1)).mono ?_
    rintro e w2 ⟨rfl, u2⟩
    go_wp2_with fail
    refine (C2.out _ ((u0.trans u1).trans u2)).mono ?_
    rintro e w3 ⟨rfl, u3⟩
    have kr1 := kr0.up ((u1.trans u2).trans u3)
    have gr1 := kr1.cell 0
    have fr1 := kr1.frozen 0
    clear hW0
    go_wp2_with fail
    refine bodyPost_ret (v := .tuple #[.agg #[.slice none 0 0], .int .i64 1]) (by simp [results, Tryz.results34, go_sem, gr1]) rfl ?_
    rw [HD.out]
    exact ToR.rp good_Tree (zeroTree _ _ _ ((((u0.trans u1).trans u2).trans u3).setCell (by simp) _))
  rw [h2] at c2
  have C2 := Lib.hid c2
  have HD := merge_yes ⟨ht, h1, h2⟩
  have hTP := treeP_of ht
  have HTP := Lib.hid hTP
  have H1 := Lib.hid h1
  have H2 := Lib.hid h2
  have cb1 := fun W (hW : Up w W) => c_l03Begins ys zs B B' d d' W (k.up good_S hW) (k'.up good_S hW)
  have cb2 := fun W (hW : Up w W) => c_l03Begins zs ys B' B d' d W (k'.up good_S hW) (k.up good_S hW)
  have co := fun W (hW : Up w W) => c_l03Own x A0 c0 W (b00.up good_Node hW) (by have := hTP.1; omega) (treeP_subs hTP)
  have CO := Lib.hid co
  have hyl := subs_len h1
  have hzl := subs_len h2
  have HNM : Hid (nameB s = true) := by simp only [placeB, Bool.and_eq_true] at h1; exact h1.1
  have hbd : mgB s ys f zs = (decide (s = f) && (begB ys zs || begB zs ys)) := rfl
  have HB : Hid (∀ b, mgB s ys f zs = b → mgR x s ys f zs = if b = true then ([], 5) else mgL s ys f zs x x) := fun b hb => by unfold mgR; rw [hb]
  generalize mgB s ys f zs = mb at *
  generalize begB ys zs = b1 at *
  generalize begB zs ys = b2 at *
  have CB1 := Lib.hid cb1
  have CB2 := Lib.hid cb2
  have hxl := b00.len_le
  clear cb1 cb2 co ct c1 c2 ht h1 h2 hTP
  go_enter Tryz.func34, Tryz.ntmps34
  go_wp2_with fail
  rw [← hW0]
  refine (C0.out _ u0).mono ?_
  rintro e w1a ⟨rfl, u1a⟩
  go_wp2_with fail
  refine (C1.out _ (u0.trans u1a)).mono ?_
  rintro e w1b ⟨rfl, u1b⟩
  go_wp2_with fail
  refine (C2.out _ ((u0.trans u1a).trans u1b)).mono ?_
  rintro e w1 ⟨rfl, u1c⟩
  have u1 := (u1a.trans u1b).trans u1c
  have uu1 := u0.trans u1
  clear hW0
  go_upto_region 3 with fail
  go_cut [46] (fun t wx => t = .bool mb ∧ Up w1 wx)
  case first =>
    by_cases hsf : s = f
    · have hbe : (s.toList == f.toList) = true := by rw [str_beq]; simp [hsf]
      cases b1
      · have hbd' : mb = b2 := by rw [hbd, hsf]; simp
        clear hsf hbd
        go_wp2_with fail
        refine (CB1.out _ uu1).mono ?_
        rintro e w2 ⟨rfl, u2⟩
        go_wp2_with fail
        refine (CB2.out _ (uu1.trans u2)).mono ?_
        rintro e w3 ⟨rfl, u3⟩
        go_wp2_with fail
        go_meet
        exact ⟨by rw [hbd'], u2.trans u3⟩
      · have hbd' : mb = true := by rw [hbd, hsf]; simp
        clear hsf hbd
        go_wp2_with fail
        refine (CB1.out _ uu1).mono ?_
        rintro e w2 ⟨rfl, u2⟩
        go_wp2_with fail
        go_meet
        exact ⟨by rw [hbd'], u2⟩
    · have hbe : (s.toList == f.toList) = false := by rw [str_beq]; simp [hsf]
      have hbd' : mb = false := by rw [hbd]; simp [hsf]
      clear hsf hbd
      go_wp2_with fail
      go_meet
      exact ⟨by rw [hbd'], Up.refl w1⟩
  obtain ⟨rfl, u2⟩ := hcut
  have uuc := uu1.trans u2
  have kac := ka0.up (u1.trans u2)
  have krc := kr0.up (u1.trans u2)
  have gac : wc.cell? ⟨w.heap.size, 0, none⟩ = some (.slice A0 x.length c0) := kac.cell 0
  clear hbd CB1 CB2
  cases mb
  · have HR := Lib.hid (show mgR x s ys f zs = mgL s ys f zs x x from HB.out false rfl)
    go_wp2_with fail
    refine (CO.out _ uuc).mono ?_
    rintro e w4 ⟨D2, d2, bl2, rfl, o2, nd2, u4⟩
    have kr4 := (krc.up u4).alloc (.cells #[.slice D2 x.length d2] 32)
    have ka4 := (kac.up u4).alloc (.cells #[.slice D2 x.length d2] 32)
    have uu4 := (uuc.trans u4).alloc (.cells #[.slice D2 x.length d2] 32)
    have ko4 : Bk (w4.alloc (.cells #[.slice D2 x.length d2] 32)) w4.heap.size 32 #[.slice D2 x.length d2] := Bk.new _ _ _
    have hwr : w.heap.size + 2 ≤ wc.heap.size := by have := u1.size; have := u2.size; omega
    have hw4 : w.heap.size + 2 ≤ w4.heap.size := by have := u4.size; omega
    have h4a : Up w4 (w4.alloc (.cells #[.slice D2 x.length d2] 32)) := (Up.refl w4).alloc _
    have hsr4 : SR shNode (w4.alloc (.cells #[.slice D2 x.length d2] 32)) (w.heap.size + 2) w4.heap.size D2 d2 x := ((o2.rep good_Node).wide good_Node hwr (Nat.le_refl _)).keep good_Node (h4a.keeps (Nat.le_refl _))
    clear kac krc gac CO C0 C1 C2 u1a u1b u1c u1 u2 hwr
    go_wp2_with fail
    go_loopw [13] (fun i wr => ∃ (j : Nat) (y : TTree) (A : Option Addr) (c lo hi : Nat), j ≤ x.length ∧ i = .int .i64 j ∧ Bk wr w4.heap.size 32 #[.slice A y.length c] ∧ Bk wr (w.heap.size + 1) 32 #[.slice none 0 0] ∧ Bk wr w.heap.size 32 #[.slice A0 x.length c0] ∧ SR shNode wr lo hi A c y ∧ Up w wr ∧ Hid (TreeP y) ∧ Hid (mgL s ys f zs x x = mgL s ys f zs y (x.drop j)) ∧ w.heap.size + 2 ≤ lo ∧ (hi ≤ w4.heap.size ∨ w4.heap.size < lo) ∧ hi ≤ wr.heap.size) (fun i _ => x.length - (intOf i).toNat)
    case atStart => exact ⟨0, x, D2, d2, w.heap.size + 2, w4.heap.size, Nat.zero_le _, rfl, ko4, kr4, ka4, hsr4, uu4, HTP, by rw [List.drop_zero]; rfl, Nat.le_refl _, .inl (Nat.le_refl _), by simp⟩
    case round =>
      clear ko4 kr4 ka4 hsr4 uu4 h4a
      obtain ⟨j, y, A, c, lo, hi, hj, rfl, ko, kr, ka, sr, hu, HP, HC, hlo, hb, hhi⟩ := hrel
      have go0 : wr.cell? ⟨w4.heap.size, 0, none⟩ = some (.slice A y.length c) := ko.cell 0
      have ga0 : wr.cell? ⟨w.heap.size, 0, none⟩ = some (.slice A0 x.length c0) := ka.cell 0
      have hol := ko.lt
      by_cases hlt : j < x.length
      · obtain ⟨g3, off, A2, c2, rfl, _, hgl3, hc0, hc1, hc2, b0, b1, b2, _⟩ := atNode b00 hlt
        have q0 := (hu.cell (cell_lt hc0)).trans hc0
        have q1 := (hu.cell (cell_lt hc1)).trans hc1
        have q2 := (hu.cell (cell_lt hc2)).trans hc2
        have b1' : SRW shS wr A2 c2 x[j].2.1 := b1.up good_S hu
        have kn := Bk.new wr 91 #[.string x[j].1, .slice A2 x[j].2.1.length c2, .string x[j].2.2]
        have ua : Up wr (wr.alloc (.cells #[.string x[j].1, .slice A2 x[j].2.1.length c2, .string x[j].2.2] 91)) := (Up.refl wr).alloc _
        have cat := fun W (hW : Up wr W) => c_l03In x[j] (.agg #[.string x[j].1, .slice A2 x[j].2.1.length c2, .string x[j].2.2]) f zs B' d' W (AV.up good_Node ⟨_, rfl, mkNode (x := x[j]) b0 b1' b2⟩ hW) (k'.up good_S (hu.trans hW))
        clear hc0 hc1 hc2
        cases ha : atB x[j] (f, zs)
        · rw [ha] at cat
          have CA := Lib.hid cat
          have HN : Hid (mgL s ys f zs x x = mgL s ys f zs y (x.drop (j + 1))) := by unfold Hid; rw [HC.out, mgL_skip hlt ha]
          clear cat ha HC
          go_wp2_with fail
          refine (CA.out _ ua).mono ?_
          rintro e w5 ⟨rfl, u5⟩
          have ua5 := ua.trans u5
          go_wp2_with fail
          go_roundw
          case rel => exact ⟨j + 1, y, A, c, lo, hi, by omega, by go_num, ko.up ua5, kr.up ua5, ka.up ua5, sr.keep good_Node (ua5.keeps hhi), hu.trans ua5, HP, HN, hlo, hb, Nat.le_trans hhi ua5.size⟩
          case measure => simp [intOf]; omega
        · rw [ha] at cat
          have CA := Lib.hid cat
          have hzn := atB_len ha
          have hcn := b1'.1
          have hcm := b1'.2.1
          unfold maxLen at hcm
          obtain ⟨T, hT⟩ : ∃ T, T = mto ys zs x[j] := ⟨_, rfl⟩
          have hcase : (subsB T = false ∧ mgL s ys f zs x x = ([], 1)) ∨ (subsB T = true ∧ ¬ putC y (s, T) = 0 ∧ mgL s ys f zs x x = ([], putC y (s, T))) ∨ (subsB T = true ∧ putC y (s, T) = 0 ∧ mgL s ys f zs x x = mgL s ys f zs (putR y (s, T) x[j].2.2) (x.drop (j + 1)) ∧ TreeP (putR y (s, T) x[j].2.2)) := by
            rw [hT, HC.out]
            cases hb : subsB (mto ys zs x[j])
            · exact .inl ⟨rfl, mgL_form hlt ha hb⟩
            · have hpl : placeB s (mto ys zs x[j]) = true := by unfold placeB; rw [HNM.out, hb]; rfl
              by_cases hz : putC y (s, mto ys zs x[j]) = 0
              · refine .inr (.inr ⟨rfl, hz, ?_, ?_⟩)
                · rw [mgL_step hlt ha hb hz]; unfold putR; rw [if_pos hz]
                · unfold putR; rw [if_pos hz]; exact putT_P HP.out hpl (treeP_val HTP.out _ (List.getElem_mem hlt)) (putC_ok hz)
              · exact .inr (.inl ⟨rfl, hz, mgL_stop hlt ha hb hz⟩)
          have hsub : subsB T = true → T.length ≤ 4 := fun hb => by
            have hpl : placeB s T = true := by unfold placeB; rw [HNM.out, hb]; rfl
            exact subs_len hpl
          have cp : ∀ W D dd, Up wr W → SRW shS W D dd T → subsB T = true → Calls Tryz.prog 76 #[.agg #[.slice A y.length c], .string s, .slice D T.length dd, .string x[j].2.2] W (ToR shTree (putR y (s, T) x[j].2.2) (putC y (s, T)) W) := fun W D dd hW hS hb =>
            c_l03Put y _ s T D dd x[j].2.2 W (AV.up good_Tree ⟨_, rfl, mkTree (sr.wide good_Node (Nat.zero_le _) hhi)⟩ hW) hS hs b2 (by have := HP.out.1; omega) (treeP_subs HP.out) (by have := hsub hb; omega)
          have hxs : x[j].2.1.length ≤ 1048576 := treeP_subs HTP.out j hlt
          generalize putC y (s, T) = q at *
          generalize putR y (s, T) x[j].2.2 = R at *
          have hnil : A2 = none → x[j].2.1.length = 0 := fun e => by
            rcases Nat.eq_zero_or_pos x[j].2.1.length with h | h
            · exact h
            · obtain ⟨g4, o4, hA, _⟩ := b1'.2.2 h
              rw [e] at hA; cases hA
          have hn2 : T = ys ++ x[j].2.1.drop zs.length := hT
          obtain ⟨i2, hi2, hz0, hz1, hz2⟩ := info_parts cinfo_StringS
          have hbb : (ys.length + (x[j].2.1.drop zs.length).length) * i2.bytes ≤ 140737488355328 := by rw [hz2, List.length_drop]; omega
          have hmm : ys.length + (x[j].2.1.drop zs.length).length ≤ maxLen := by rw [List.length_drop]; unfold maxLen; omega
          have HTL : Hid (T.length = ys.length + (x[j].2.1.length - zs.length)) := by unfold Hid; rw [hn2, List.length_append, List.length_drop]
          cases A2 with
          | none =>
            have hd2 : SRW shS wr none (c2 - zs.length) (x[j].2.1.drop zs.length) := by
              rw [List.eq_nil_of_length_eq_zero (l := x[j].2.1.drop zs.length) (by rw [List.length_drop, hnil rfl]; exact Nat.zero_sub _)]
              exact SR.dropAll (Nat.le_trans (Nat.sub_le _ _) b1'.2.1)
            have n2 : ∀ W, Up (wr.alloc (.cells #[.string x[j].1, .slice none x[j].2.1.length c2, .string x[j].2.2] 91)) W → W.cell? ⟨wr.heap.size, 1, none⟩ = some (.slice none x[j].2.1.length c2) ∧ W.cell? ⟨wr.heap.size, 2, none⟩ = some (.string x[j].2.2) := fun W hW => ⟨(kn.up hW).cell 1, (kn.up hW).cell 2⟩
            have N2 := Lib.hid n2
            have hsrc : ∀ W, Up wr W → ∃ news, Src Tryz.prog i2.size 25 (.slice none (x[j].2.1.length - zs.length) (c2 - zs.length)) (x[j].2.1.drop zs.length).length news W ∧ Rowed shS W wr.heap.size W.heap.size news (x[j].2.1.drop zs.length) (List.replicate (x[j].2.1.drop zs.length).length []) := fun W hW => by
              have e := (hd2.up good_S hW).src (lo := wr.heap.size) (hi := W.heap.size) good_S flat_S (P := Tryz.prog) (n := i2.size) (tx := 25) Tryz.underlying25 hz1
              rw [List.length_drop] at e ⊢
              exact e
            have HSRC := Lib.hid hsrc
            clear n2 cat hT hnil hsrc
            rcases hcase with ⟨hbs, hres⟩ | ⟨hbs, hq, hres⟩ | ⟨hbs, hq, hres, hPR⟩
            · have HRES := Lib.hid hres
              clear hres ha HC
              have csb := fun W D dd (hW : SRW shS W D dd T) => c_specSubsOk T D dd W hW
              rw [hbs] at csb
              have CSB := Lib.hid csb
              have HN2 := Lib.hid hn2
              clear csb hbs cp hsub hn2
              go_wp2_with fail
              refine (CA.out _ ua).mono ?_
              rintro e w3 ⟨rfl, u3⟩
              have ua3 := ua.trans u3
              have m1 := (N2.out w3 u3).1
              go_wp2_with fail
              go_region_held3 (fun W => W.cell? ⟨wr.heap.size, 1, none⟩ = some (.slice none x[j].2.1.length c2))
                (first | exact m1 | exact (N2.out _ u3.drew).1 | exact (N2.out _ (u3.trans v4)).1 | exact (N2.out _ (u3.trans v6)).1)
                (first
                  | (go_at_call 74
                     (with_reducible refine (c_l03Subs ys B d _ (k.up good_S ((hu.trans ua3).drew)) (by omega)).mono ?_)
                     rintro e w5 ⟨E1, e1, bln, rfl, on5, ndn, u5⟩
                     have v4 : Up w3 w5 := (Up.refl w3).drew.trans u5
                     obtain ⟨news, hsr, hrw⟩ := HSRC.out w5 (ua3.trans v4)
                     have on5' := on5.wide good_S (lo' := wr.heap.size) (Nat.le_trans ua3.size (by simp)) (Nat.le_refl _))
                  | (refine step_app good_S rfl _ _ _ _ 9 rfl i2 _ Tryz.underlying25 hi2 hz0 hz1 (by rfl) (lo := wr.heap.size) (xs := ys) (ys := x[j].2.1.drop zs.length) (bl := bln) (bs := List.replicate (x[j].2.1.drop zs.length).length []) (news := news) rfl rfl on5' (by rw [flat_nil]; simpa using ndn) hsr hrw (Nat.le_trans ua3.size v4.size) hbb hmm ?_
                     intro D6 d6 bl6 w6 hap
                     obtain ⟨so6, nd6, mem6, on6⟩ := hap
                     have v6 : Up w3 w6 := v4.only on6 (fun y hy => by have := (on5.in_ good_S y hy).1; simpa using this)))
              have hlT : ys.length + (x[j].2.1.drop zs.length).length = T.length := by rw [HN2.out, List.length_append]
              rw [hlT]
              have sr6 : SRW shS w6 D6 d6 T := by rw [HN2.out]; exact SR.of_own good_S so6
              have HLT := Lib.hid hlT
              clear hlT
              go_wp2_with fail
              rw [show ys.length + (x[j].2.1.length - zs.length) = T.length from HTL.out.symm]
              refine (CSB.out w6 D6 d6 sr6).mono ?_
              rintro e w7 ⟨rfl, u7⟩
              have ua7 := ua3.trans (v6.trans u7)
              have kr7 := kr.up ua7
              have gr7 := kr7.cell 0
              have fr7 := kr7.frozen 0
              go_wp2_with fail
              refine bodyPost_ret (v := .tuple #[.agg #[.slice none 0 0], .int .i64 1]) (by simp [results, Tryz.results34, go_sem, gr7]) rfl ?_
              rw [HD.out, HR.out, HRES.out]
              exact ToR.rp good_Tree (zeroTree _ _ _ ((hu.trans ua7).setCell (by simp) _))
            · have HRES := Lib.hid hres
              clear hres ha HC
              have hqb : (q != 0) = true := by simpa using hq
              have CP := Lib.hid (fun W D dd hW hS => cp W D dd hW hS hbs)
              have csb := fun W D dd (hW : SRW shS W D dd T) => c_specSubsOk T D dd W hW
              rw [hbs] at csb
              have CSB := Lib.hid csb
              have HN2 := Lib.hid hn2
              clear csb hbs cp hsub hn2
              go_wp2_with fail
              refine (CA.out _ ua).mono ?_
              rintro e w3 ⟨rfl, u3⟩
              have ua3 := ua.trans u3
              have m1 := (N2.out w3 u3).1
              go_wp2_with fail
              go_region_held3 (fun W => W.cell? ⟨wr.heap.size, 1, none⟩ = some (.slice none x[j].2.1.length c2))
                (first | exact m1 | exact (N2.out _ u3.drew).1 | exact (N2.out _ (u3.trans v4)).1 | exact (N2.out _ (u3.trans v6)).1)
                (first
                  | (go_at_call 74
                     (with_reducible refine (c_l03Subs ys B d _ (k.up good_S ((hu.trans ua3).drew)) (by omega)).mono ?_)
                     rintro e w5 ⟨E1, e1, bln, rfl, on5, ndn, u5⟩
                     have v4 : Up w3 w5 := (Up.refl w3).drew.trans u5
                     obtain ⟨news, hsr, hrw⟩ := HSRC.out w5 (ua3.trans v4)
                     have on5' := on5.wide good_S (lo' := wr.heap.size) (Nat.le_trans ua3.size (by simp)) (Nat.le_refl _))
                  | (refine step_app good_S rfl _ _ _ _ 9 rfl i2 _ Tryz.underlying25 hi2 hz0 hz1 (by rfl) (lo := wr.heap.size) (xs := ys) (ys := x[j].2.1.drop zs.length) (bl := bln) (bs := List.replicate (x[j].2.1.drop zs.length).length []) (news := news) rfl rfl on5' (by rw [flat_nil]; simpa using ndn) hsr hrw (Nat.le_trans ua3.size v4.size) hbb hmm ?_
                     intro D6 d6 bl6 w6 hap
                     obtain ⟨so6, nd6, mem6, on6⟩ := hap
                     have v6 : Up w3 w6 := v4.only on6 (fun y hy => by have := (on5.in_ good_S y hy).1; simpa using this)))
              have hlT : ys.length + (x[j].2.1.drop zs.length).length = T.length := by rw [HN2.out, List.length_append]
              rw [hlT]
              have sr6 : SRW shS w6 D6 d6 T := by rw [HN2.out]; exact SR.of_own good_S so6
              have HLT := Lib.hid hlT
              clear hlT
              go_wp2_with fail
              rw [show ys.length + (x[j].2.1.length - zs.length) = T.length from HTL.out.symm]
              refine (CSB.out w6 D6 d6 sr6).mono ?_
              rintro e w7 ⟨rfl, u7⟩
              have ua7 := ua3.trans (v6.trans u7)
              have kr7 := kr.up ua7
              have p2 := (N2.out w7 (u3.trans (v6.trans u7))).2
              have ko7 := ko.up ua7
              have go7 : w7.cell? ⟨w4.heap.size, 0, none⟩ = some (.slice A y.length c) := ko7.cell 0
              go_wp2_with fail
              refine (CP.out w7 D6 d6 ua7 (sr6.up good_S u7)).mono ?_
              rintro e w8 ⟨cs8, bl8, rfl, o8, nd8, u8⟩
              obtain ⟨D8, d8, _, rfl, rfl, so8⟩ := openOTree o8
              have u8a : Up w8 (w8.alloc (.cells #[.slice D8 R.length d8] 32)) := (Up.refl w8).alloc _
              have ua8 := ua7.trans (u8.trans u8a)
              have kr8 := kr.up ua8
              have gr8 := kr8.cell 0
              have fr8 := kr8.frozen 0
              have ko8 := ko.up ua8
              have go8 := ko8.cell 0
              have fo8 := ko8.frozen 0
              have gx8 : (w8.alloc (.cells #[.slice D8 R.length d8] 32)).cell? ⟨w8.heap.size, 0, none⟩ = some (.slice D8 R.length d8) := (Bk.new w8 32 #[.slice D8 R.length d8]).cell 0
              have hsz8 := u8.size
              have hsz7 := ua7.size
              go_wp2_with fail
              refine bodyPost_ret (v := .tuple #[.agg #[.slice none 0 0], .int .i64 q]) (by simp [results, Tryz.results34, go_sem, gr8]) rfl ?_
              rw [HD.out, HR.out, HRES.out]
              exact ToR.rp good_Tree (zeroTree _ _ _ ((hu.trans ua8).setCell (by simp) _))
            · have HRES := Lib.hid hres
              clear hres ha HC
              have HPR := Lib.hid hPR
              have CP := Lib.hid (fun W D dd hW hS => cp W D dd hW hS hbs)
              subst hq
              have csb := fun W D dd (hW : SRW shS W D dd T) => c_specSubsOk T D dd W hW
              rw [hbs] at csb
              have CSB := Lib.hid csb
              have HN2 := Lib.hid hn2
              clear csb hbs cp hsub hn2
              go_wp2_with fail
              refine (CA.out _ ua).mono ?_
              rintro e w3 ⟨rfl, u3⟩
              have ua3 := ua.trans u3
              have m1 := (N2.out w3 u3).1
              go_wp2_with fail
              go_region_held3 (fun W => W.cell? ⟨wr.heap.size, 1, none⟩ = some (.slice none x[j].2.1.length c2))
                (first | exact m1 | exact (N2.out _ u3.drew).1 | exact (N2.out _ (u3.trans v4)).1 | exact (N2.out _ (u3.trans v6)).1)
                (first
                  | (go_at_call 74
                     (with_reducible refine (c_l03Subs ys B d _ (k.up good_S ((hu.trans ua3).drew)) (by omega)).mono ?_)
                     rintro e w5 ⟨E1, e1, bln, rfl, on5, ndn, u5⟩
                     have v4 : Up w3 w5 := (Up.refl w3).drew.trans u5
                     obtain ⟨news, hsr, hrw⟩ := HSRC.out w5 (ua3.trans v4)
                     have on5' := on5.wide good_S (lo' := wr.heap.size) (Nat.le_trans ua3.size (by simp)) (Nat.le_refl _))
                  | (refine step_app good_S rfl _ _ _ _ 9 rfl i2 _ Tryz.underlying25 hi2 hz0 hz1 (by rfl) (lo := wr.heap.size) (xs := ys) (ys := x[j].2.1.drop zs.length) (bl := bln) (bs := List.replicate (x[j].2.1.drop zs.length).length []) (news := news) rfl rfl on5' (by rw [flat_nil]; simpa using ndn) hsr hrw (Nat.le_trans ua3.size v4.size) hbb hmm ?_
                     intro D6 d6 bl6 w6 hap
                     obtain ⟨so6, nd6, mem6, on6⟩ := hap
                     have v6 : Up w3 w6 := v4.only on6 (fun y hy => by have := (on5.in_ good_S y hy).1; simpa using this)))
              have hlT : ys.length + (x[j].2.1.drop zs.length).length = T.length := by rw [HN2.out, List.length_append]
              rw [hlT]
              have sr6 : SRW shS w6 D6 d6 T := by rw [HN2.out]; exact SR.of_own good_S so6
              have HLT := Lib.hid hlT
              clear hlT
              go_wp2_with fail
              rw [show ys.length + (x[j].2.1.length - zs.length) = T.length from HTL.out.symm]
              refine (CSB.out w6 D6 d6 sr6).mono ?_
              rintro e w7 ⟨rfl, u7⟩
              have ua7 := ua3.trans (v6.trans u7)
              have kr7 := kr.up ua7
              have p2 := (N2.out w7 (u3.trans (v6.trans u7))).2
              have ko7 := ko.up ua7
              have go7 : w7.cell? ⟨w4.heap.size, 0, none⟩ = some (.slice A y.length c) := ko7.cell 0
              go_wp2_with fail
              refine (CP.out w7 D6 d6 ua7 (sr6.up good_S u7)).mono ?_
              rintro e w8 ⟨cs8, bl8, rfl, o8, nd8, u8⟩
              obtain ⟨D8, d8, _, rfl, rfl, so8⟩ := openOTree o8
              have u8a : Up w8 (w8.alloc (.cells #[.slice D8 R.length d8] 32)) := (Up.refl w8).alloc _
              have ua8 := ua7.trans (u8.trans u8a)
              have kr8 := kr.up ua8
              have gr8 := kr8.cell 0
              have fr8 := kr8.frozen 0
              have ko8 := ko.up ua8
              have go8 := ko8.cell 0
              have fo8 := ko8.frozen 0
              have gx8 : (w8.alloc (.cells #[.slice D8 R.length d8] 32)).cell? ⟨w8.heap.size, 0, none⟩ = some (.slice D8 R.length d8) := (Bk.new w8 32 #[.slice D8 R.length d8]).cell 0
              have hsz8 := u8.size
              have hsz7 := ua7.size
              go_wp2_with fail
              go_roundw
              case rel =>
                have hbut := But.set (w8.alloc (.cells #[.slice D8 R.length d8] 32)) w4.heap.size 0 (.slice D8 R.length d8)
                have sr8 : SR shNode (w8.alloc (.cells #[.slice D8 R.length d8] 32)) w7.heap.size w8.heap.size D8 d8 R := (so8.rep good_Node).keep good_Node (u8a.keeps (Nat.le_refl _))
                exact ⟨j + 1, R, D8, d8, w7.heap.size, w8.heap.size, by omega, by go_num, by simpa using ko8.set 0 (.slice D8 R.length d8), kr8.far (p := ⟨w4.heap.size, 0, none⟩) (by simp; omega) _, (ka.up ua8).far (p := ⟨w4.heap.size, 0, none⟩) (by simp; omega) _, sr8.keep good_Node (fun b h1 h2 => hbut.block b (by omega)), (hu.trans ua8).setCell (by simp; omega) _, HPR, HRES, by omega, .inr (by omega), by rw [hbut.size]; simp⟩
              case measure => simp [intOf]; omega
          | some a =>
            obtain ⟨SA, hSA, hd2⟩ := SR.cutS b1' hzn
            have n2 : ∀ W, Up (wr.alloc (.cells #[.string x[j].1, .slice (some a) x[j].2.1.length c2, .string x[j].2.2] 91)) W → W.cell? ⟨wr.heap.size, 1, none⟩ = some (.slice (some a) x[j].2.1.length c2) ∧ W.cell? ⟨wr.heap.size, 2, none⟩ = some (.string x[j].2.2) := fun W hW => ⟨(kn.up hW).cell 1, (kn.up hW).cell 2⟩
            have N2 := Lib.hid n2
            have hsrc : ∀ W, Up wr W → ∃ news, Src Tryz.prog i2.size 25 (.slice (some SA) (x[j].2.1.length - zs.length) (c2 - zs.length)) (x[j].2.1.drop zs.length).length news W ∧ Rowed shS W wr.heap.size W.heap.size news (x[j].2.1.drop zs.length) (List.replicate (x[j].2.1.drop zs.length).length []) := fun W hW => by
              have e := (hd2.up good_S hW).src (lo := wr.heap.size) (hi := W.heap.size) good_S flat_S (P := Tryz.prog) (n := i2.size) (tx := 25) Tryz.underlying25 hz1
              rw [List.length_drop] at e ⊢
              exact e
            have HSRC := Lib.hid hsrc
            clear n2 cat hT hnil hsrc
            rcases hcase with ⟨hbs, hres⟩ | ⟨hbs, hq, hres⟩ | ⟨hbs, hq, hres, hPR⟩
            · have HRES := Lib.hid hres
              clear hres ha HC
              have csb := fun W D dd (hW : SRW shS W D dd T) => c_specSubsOk T D dd W hW
              rw [hbs] at csb
              have CSB := Lib.hid csb
              have HN2 := Lib.hid hn2
              clear csb hbs cp hsub hn2
              go_wp2_with fail
              refine (CA.out _ ua).mono ?_
              rintro e w3 ⟨rfl, u3⟩
              have ua3 := ua.trans u3
              have m1 := (N2.out w3 u3).1
              go_wp2_with fail
              go_region_held3 (fun W => W.cell? ⟨wr.heap.size, 1, none⟩ = some (.slice (some a) x[j].2.1.length c2))
                (first | exact m1 | exact (N2.out _ u3.drew).1 | exact (N2.out _ (u3.trans v4)).1 | exact (N2.out _ (u3.trans v6)).1)
                (first
                  | (go_at_call 74
                     (with_reducible refine (c_l03Subs ys B d _ (k.up good_S ((hu.trans ua3).drew)) (by omega)).mono ?_)
                     rintro e w5 ⟨E1, e1, bln, rfl, on5, ndn, u5⟩
                     have v4 : Up w3 w5 := (Up.refl w3).drew.trans u5
                     obtain ⟨news, hsr, hrw⟩ := HSRC.out w5 (ua3.trans v4)
                     have on5' := on5.wide good_S (lo' := wr.heap.size) (Nat.le_trans ua3.size (by simp)) (Nat.le_refl _))
                  | (refine step_app good_S rfl _ _ _ _ 9 rfl i2 _ Tryz.underlying25 hi2 hz0 hz1 (by rfl) (lo := wr.heap.size) (xs := ys) (ys := x[j].2.1.drop zs.length) (bl := bln) (bs := List.replicate (x[j].2.1.drop zs.length).length []) (news := news) rfl rfl on5' (by rw [flat_nil]; simpa using ndn) hsr hrw (Nat.le_trans ua3.size v4.size) hbb hmm ?_
                     intro D6 d6 bl6 w6 hap
                     obtain ⟨so6, nd6, mem6, on6⟩ := hap
                     have v6 : Up w3 w6 := v4.only on6 (fun y hy => by have := (on5.in_ good_S y hy).1; simpa using this)))
              have hlT : ys.length + (x[j].2.1.drop zs.length).length = T.length := by rw [HN2.out, List.length_append]
              rw [hlT]
              have sr6 : SRW shS w6 D6 d6 T := by rw [HN2.out]; exact SR.of_own good_S so6
              have HLT := Lib.hid hlT
              clear hlT
              go_wp2_with fail
              rw [show ys.length + (x[j].2.1.length - zs.length) = T.length from HTL.out.symm]
              refine (CSB.out w6 D6 d6 sr6).mono ?_
              rintro e w7 ⟨rfl, u7⟩
              have ua7 := ua3.trans (v6.trans u7)
              have kr7 := kr.up ua7
              have gr7 := kr7.cell 0
              have fr7 := kr7.frozen 0
              go_wp2_with fail
              refine bodyPost_ret (v := .tuple #[.agg #[.slice none 0 0], .int .i64 1]) (by simp [results, Tryz.results34, go_sem, gr7]) rfl ?_
              rw [HD.out, HR.out, HRES.out]
              exact ToR.rp good_Tree (zeroTree _ _ _ ((hu.trans ua7).setCell (by simp) _))
            · have HRES := Lib.hid hres
              clear hres ha HC
              have hqb : (q != 0) = true := by simpa using hq
              have CP := Lib.hid (fun W D dd hW hS => cp W D dd hW hS hbs)
              have csb := fun W D dd (hW : SRW shS W D dd T) => c_specSubsOk T D dd W hW
              rw [hbs] at csb
              have CSB := Lib.hid csb
              have HN2 := Lib.hid hn2
              clear csb hbs cp hsub hn2
              go_wp2_with fail
              refine (CA.out _ ua).mono ?_
              rintro e w3 ⟨rfl, u3⟩
              have ua3 := ua.trans u3
              have m1 := (N2.out w3 u3).1
              go_wp2_with fail
              go_region_held3 (fun W => W.cell? ⟨wr.heap.size, 1, none⟩ = some (.slice (some a) x[j].2.1.length c2))
                (first | exact m1 | exact (N2.out _ u3.drew).1 | exact (N2.out _ (u3.trans v4)).1 | exact (N2.out _ (u3.trans v6)).1)
                (first
                  | (go_at_call 74
                     (with_reducible refine (c_l03Subs ys B d _ (k.up good_S ((hu.trans ua3).drew)) (by omega)).mono ?_)
                     rintro e w5 ⟨E1, e1, bln, rfl, on5, ndn, u5⟩
                     have v4 : Up w3 w5 := (Up.refl w3).drew.trans u5
                     obtain ⟨news, hsr, hrw⟩ := HSRC.out w5 (ua3.trans v4)
                     have on5' := on5.wide good_S (lo' := wr.heap.size) (Nat.le_trans ua3.size (by simp)) (Nat.le_refl _))
                  | (refine step_app good_S rfl _ _ _ _ 9 rfl i2 _ Tryz.underlying25 hi2 hz0 hz1 (by rfl) (lo := wr.heap.size) (xs := ys) (ys := x[j].2.1.drop zs.length) (bl := bln) (bs := List.replicate (x[j].2.1.drop zs.length).length []) (news := news) rfl rfl on5' (by rw [flat_nil]; simpa using ndn) hsr hrw (Nat.le_trans ua3.size v4.size) hbb hmm ?_
                     intro D6 d6 bl6 w6 hap
                     obtain ⟨so6, nd6, mem6, on6⟩ := hap
                     have v6 : Up w3 w6 := v4.only on6 (fun y hy => by have := (on5.in_ good_S y hy).1; simpa using this)))
              have hlT : ys.length + (x[j].2.1.drop zs.length).length = T.length := by rw [HN2.out, List.length_append]
              rw [hlT]
              have sr6 : SRW shS w6 D6 d6 T := by rw [HN2.out]; exact SR.of_own good_S so6
              have HLT := Lib.hid hlT
              clear hlT
              go_wp2_with fail
              rw [show ys.length + (x[j].2.1.length - zs.length) = T.length from HTL.out.symm]
              refine (CSB.out w6 D6 d6 sr6).mono ?_
              rintro e w7 ⟨rfl, u7⟩
              have ua7 := ua3.trans (v6.trans u7)
              have kr7 := kr.up ua7
              have p2 := (N2.out w7 (u3.trans (v6.trans u7))).2
              have ko7 := ko.up ua7
              have go7 : w7.cell? ⟨w4.heap.size, 0, none⟩ = some (.slice A y.length c) := ko7.cell 0
              go_wp2_with fail
              refine (CP.out w7 D6 d6 ua7 (sr6.up good_S u7)).mono ?_
              rintro e w8 ⟨cs8, bl8, rfl, o8, nd8, u8⟩
              obtain ⟨D8, d8, _, rfl, rfl, so8⟩ := openOTree o8
              have u8a : Up w8 (w8.alloc (.cells #[.slice D8 R.length d8] 32)) := (Up.refl w8).alloc _
              have ua8 := ua7.trans (u8.trans u8a)
              have kr8 := kr.up ua8
              have gr8 := kr8.cell 0
              have fr8 := kr8.frozen 0
              have ko8 := ko.up ua8
              have go8 := ko8.cell 0
              have fo8 := ko8.frozen 0
              have gx8 : (w8.alloc (.cells #[.slice D8 R.length d8] 32)).cell? ⟨w8.heap.size, 0, none⟩ = some (.slice D8 R.length d8) := (Bk.new w8 32 #[.slice D8 R.length d8]).cell 0
              have hsz8 := u8.size
              have hsz7 := ua7.size
              go_wp2_with fail
              refine bodyPost_ret (v := .tuple #[.agg #[.slice none 0 0], .int .i64 q]) (by simp [results, Tryz.results34, go_sem, gr8]) rfl ?_
              rw [HD.out, HR.out, HRES.out]
              exact ToR.rp good_Tree (zeroTree _ _ _ ((hu.trans ua8).setCell (by simp) _))
            · have HRES := Lib.hid hres
              clear hres ha HC
              have HPR := Lib.hid hPR
              have CP := Lib.hid (fun W D dd hW hS => cp W D dd hW hS hbs)
              subst hq
              have csb := fun W D dd (hW : SRW shS W D dd T) => c_specSubsOk T D dd W hW
              rw [hbs] at csb
              have CSB := Lib.hid csb
              have HN2 := Lib.hid hn2
              clear csb hbs cp hsub hn2
              go_wp2_with fail
              refine (CA.out _ ua).mono ?_
              rintro e w3 ⟨rfl, u3⟩
              have ua3 := ua.trans u3
              have m1 := (N2.out w3 u3).1
              go_wp2_with fail
              go_region_held3 (fun W => W.cell? ⟨wr.heap.size, 1, none⟩ = some (.slice (some a) x[j].2.1.length c2))
                (first | exact m1 | exact (N2.out _ u3.drew).1 | exact (N2.out _ (u3.trans v4)).1 | exact (N2.out _ (u3.trans v6)).1)
                (first
                  | (go_at_call 74
                     (with_reducible refine (c_l03Subs ys B d _ (k.up good_S ((hu.trans ua3).drew)) (by omega)).mono ?_)
                     rintro e w5 ⟨E1, e1, bln, rfl, on5, ndn, u5⟩
                     have v4 : Up w3 w5 := (Up.refl w3).drew.trans u5
                     obtain ⟨news, hsr, hrw⟩ := HSRC.out w5 (ua3.trans v4)
                     have on5' := on5.wide good_S (lo' := wr.heap.size) (Nat.le_trans ua3.size (by simp)) (Nat.le_refl _))
                  | (refine step_app good_S rfl _ _ _ _ 9 rfl i2 _ Tryz.underlying25 hi2 hz0 hz1 (by rfl) (lo := wr.heap.size) (xs := ys) (ys := x[j].2.1.drop zs.length) (bl := bln) (bs := List.replicate (x[j].2.1.drop zs.length).length []) (news := news) rfl rfl on5' (by rw [flat_nil]; simpa using ndn) hsr hrw (Nat.le_trans ua3.size v4.size) hbb hmm ?_
                     intro D6 d6 bl6 w6 hap
                     obtain ⟨so6, nd6, mem6, on6⟩ := hap
                     have v6 : Up w3 w6 := v4.only on6 (fun y hy => by have := (on5.in_ good_S y hy).1; simpa using this)))
              have hlT : ys.length + (x[j].2.1.drop zs.length).length = T.length := by rw [HN2.out, List.length_append]
              rw [hlT]
              have sr6 : SRW shS w6 D6 d6 T := by rw [HN2.out]; exact SR.of_own good_S so6
              have HLT := Lib.hid hlT
              clear hlT
              go_wp2_with fail
              rw [show ys.length + (x[j].2.1.length - zs.length) = T.length from HTL.out.symm]
              refine (CSB.out w6 D6 d6 sr6).mono ?_
              rintro e w7 ⟨rfl, u7⟩
              have ua7 := ua3.trans (v6.trans u7)
              have kr7 := kr.up ua7
              have p2 := (N2.out w7 (u3.trans (v6.trans u7))).2
              have ko7 := ko.up ua7
              have go7 : w7.cell? ⟨w4.heap.size, 0, none⟩ = some (.slice A y.length c) := ko7.cell 0
              go_wp2_with fail
              refine (CP.out w7 D6 d6 ua7 (sr6.up good_S u7)).mono ?_
              rintro e w8 ⟨cs8, bl8, rfl, o8, nd8, u8⟩
              obtain ⟨D8, d8, _, rfl, rfl, so8⟩ := openOTree o8
              have u8a : Up w8 (w8.alloc (.cells #[.slice D8 R.length d8] 32)) := (Up.refl w8).alloc _
              have ua8 := ua7.trans (u8.trans u8a)
              have kr8 := kr.up ua8
              have gr8 := kr8.cell 0
              have fr8 := kr8.frozen 0
              have ko8 := ko.up ua8
              have go8 := ko8.cell 0
              have fo8 := ko8.frozen 0
              have gx8 : (w8.alloc (.cells #[.slice D8 R.length d8] 32)).cell? ⟨w8.heap.size, 0, none⟩ = some (.slice D8 R.length d8) := (Bk.new w8 32 #[.slice D8 R.length d8]).cell 0
              have hsz8 := u8.size
              have hsz7 := ua7.size
              go_wp2_with fail
              go_roundw
              case rel =>
                have hbut := But.set (w8.alloc (.cells #[.slice D8 R.length d8] 32)) w4.heap.size 0 (.slice D8 R.length d8)
                have sr8 : SR shNode (w8.alloc (.cells #[.slice D8 R.length d8] 32)) w7.heap.size w8.heap.size D8 d8 R := (so8.rep good_Node).keep good_Node (u8a.keeps (Nat.le_refl _))
                exact ⟨j + 1, R, D8, d8, w7.heap.size, w8.heap.size, by omega, by go_num, by simpa using ko8.set 0 (.slice D8 R.length d8), kr8.far (p := ⟨w4.heap.size, 0, none⟩) (by simp; omega) _, (ka.up ua8).far (p := ⟨w4.heap.size, 0, none⟩) (by simp; omega) _, sr8.keep good_Node (fun b h1 h2 => hbut.block b (by omega)), (hu.trans ua8).setCell (by simp; omega) _, HPR, HRES, by omega, .inr (by omega), by rw [hbut.size]; simp⟩
              case measure => simp [intOf]; omega
      · have HRES : Hid (mgL s ys f zs x x = (y, 0)) := by unfold Hid; rw [HC.out, List.drop_eq_nil_of_le (by omega)]; rfl
        have gr := kr.cell 0
        have fr := kr.frozen 0
        have hbut := But.set wr (w.heap.size + 1) 0 (.slice A y.length c)
        clear HC
        go_wp2_with fail
        refine bodyPost_ret (v := .tuple #[.agg #[.slice A y.length c], .int .i64 0]) (by simp [results, Tryz.results34, go_sem, gr]) rfl ?_
        rw [HD.out, HR.out, HRES.out]
        exact ⟨[.slice A y.length c], rfl, mkTree ((sr.keep good_Node (fun b h1 h2 => hbut.block b (by omega))).wide good_Node (Nat.zero_le _) (by rw [hbut.size]; exact hhi)), hu.setCell (by simp) _⟩
  · have HR := Lib.hid (HB.out true rfl)
    have gr := krc.cell 0
    have fr := krc.frozen 0
    go_wp2_with fail
    refine bodyPost_ret (v := .tuple #[.agg #[.slice none 0 0], .int .i64 5]) (by simp [results, Tryz.results34, go_sem, gr]) rfl ?_
    rw [HD.out, HR.out]
    exact ToR.rp good_Tree (zeroTree _ _ _ (uuc.setCell (by simp) _))
end Go.Proofs.YtanjmolgpkffoaaGreatDoor
