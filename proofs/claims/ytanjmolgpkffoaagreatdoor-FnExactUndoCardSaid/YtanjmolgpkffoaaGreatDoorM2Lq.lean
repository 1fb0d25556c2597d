/-
  Undo: both sides.
-/
import Derived.Test.YtanjmolgpkffoaaGreatDoorM2Lp
import Derived.Deep.RegionHeld3
namespace Go.Proofs.YtanjmolgpkffoaaGreatDoor
open Go.RowKit
set_option linter.unusedVariables false
set_option linter.unusedSimpArgs false

def turnI (i : TImage) : TImage := (i.1, i.2.1, i.2.2.2.2.1, i.2.2.2.2.2, i.2.2.1, i.2.2.2.1)
def turn (l : List TImage) : List TImage := l.map turnI
def undo (x : TTree) (l : List TImage) : TTree × Int := redo x (turn l)
theorem turnI_B (i : TImage) : imgB (turnI i) = imgB i := by
  obtain ⟨a, b, had, was, has, is⟩ := i
  show imgB (a, b, has, is, had, was) = imgB (a, b, had, was, has, is)
  simp only [imgB]
  have h1 : (decide (64 < is.size) || decide (64 < was.size)) = (decide (64 < was.size) || decide (64 < is.size)) := Bool.or_comm _ _
  have h2 : (has == had) = (had == has) := by cases has <;> cases had <;> rfl
  have h3 : (is.toList == was.toList) = (was.toList == is.toList) := by
    rw [str_beq, str_beq]
    by_cases h : is = was
    · simp [h]
    · have h' : ¬ was = is := fun e => h e.symm
      simp [h, h']
  rw [h1, h2, h3]
  cases placeB a b <;> cases (decide (64 < was.size) || decide (64 < is.size)) <;> cases (had || was.toList.isEmpty) <;> cases (has || is.toList.isEmpty) <;> simp
theorem turn_B (l : List TImage) : imagesB (turn l) = imagesB l := by
  unfold imagesB
  refine decide_eq_decide.2 ?_
  unfold ImagesP turn
  simp only [List.length_map, List.getElem_map, turnI_B]
  rfl
theorem undo_bad {x : TTree} {l : List TImage} (h : imagesB l = false) : undo x l = ([], 1) := by unfold undo redo; rw [if_neg (by rw [turn_B, h]; simp)]
theorem undo_bad2 {x : TTree} {l : List TImage} (h : treeB x = false) : undo x l = ([], 1) := by unfold undo redo; rw [if_neg (by rw [h]; simp)]
theorem turn_sz (l : List TImage) : (shL shImage).sz (turn l) = (shL shImage).sz l := by
  show (turn l).length + ((turn l).map shImage.sz).sum = l.length + (l.map shImage.sz).sum
  unfold turn
  rw [List.length_map, List.map_map]
  congr 2
  refine List.map_congr_left fun i _ => ?_
  show i.1.size + ((shL shS).sz i.2.1 + (0 + (i.2.2.2.2.2.size + (0 + i.2.2.2.1.size)))) = i.1.size + ((shL shS).sz i.2.1 + (0 + (i.2.2.2.1.size + (0 + i.2.2.2.2.2.size))))
  omega
theorem undo_P (x : TTree) (l : List TImage) : TreeP (undo x l).1 := redo_P x _
theorem cinfo_Image : (Tryz.prog.info? 98).map (fun i => (i.zero, i.size, i.bytes)) = some (some (.agg #[.string ⟨#[]⟩, .slice none 0 0, .bool false, .string ⟨#[]⟩, .bool false, .string ⟨#[]⟩]), 6, 88) := by kernel_rfl
theorem turn_take (l : List TImage) {k : Nat} (h : k < l.length) : turn (l.take (k + 1)) = turn (l.take k) ++ [turnI l[k]] := by
  unfold turn
  rw [List.take_succ_eq_append_getElem h, List.map_append]
  rfl
theorem turn_len (l : List TImage) {k : Nat} (h : k ≤ l.length) : (turn (l.take k)).length = k := by unfold turn; simp; omega
theorem up6 {w w' : World} (u : Up w w') {a b c d e f : Addr} {x y z r s t : Value} (h : w.cell? a = some x ∧ w.cell? b = some y ∧ w.cell? c = some z ∧ w.cell? d = some r ∧ w.cell? e = some s ∧ w.cell? f = some t) :
    w'.cell? a = some x ∧ w'.cell? b = some y ∧ w'.cell? c = some z ∧ w'.cell? d = some r ∧ w'.cell? e = some s ∧ w'.cell? f = some t :=
  ⟨(u.cell (cell_lt h.1)).trans h.1, (u.cell (cell_lt h.2.1)).trans h.2.1, (u.cell (cell_lt h.2.2.1)).trans h.2.2.1, (u.cell (cell_lt h.2.2.2.1)).trans h.2.2.2.1, (u.cell (cell_lt h.2.2.2.2.1)).trans h.2.2.2.2.1, (u.cell (cell_lt h.2.2.2.2.2)).trans h.2.2.2.2.2⟩
set_option maxRecDepth 100000 in
set_option maxHeartbeats 8000000 in
theorem c_l19Turn (l : List TImage) (A : Option Addr) (c : Nat) (w : World) (h : SRW shImage w A c l) (hx : l.length ≤ 1000000) (hl : ∀ i (h : i < l.length), l[i].2.1.length ≤ 1048576) : Calls Tryz.prog 84 #[.slice A l.length c] w (ToL shImage (turn l) w) := by
  obtain ⟨i0, hi0, hz0, hz1, hz2⟩ := info_parts cinfo_Image
  have HL := Lib.hid hl
  clear hl
  have hlen := h.len_le
  have uA : Up w (w.alloc (.cells #[] 98)) := (Up.refl w).alloc _
  go_enter Tryz.func84, Tryz.ntmps84
  go_wp2_with fail
  go_loopw [3, 4] (fun o i wr => ∃ (k : Nat) (D : Option Addr) (d : Nat) (bl : List Nat), k ≤ l.length ∧ i = .int .i64 k ∧ o = .slice D k d ∧ SO shImage wr w.heap.size wr.heap.size D d (turn (l.take k)) bl ∧ bl.Nodup ∧ Up w wr) (fun _ i _ => l.length - (intOf i).toNat)
  case atStart => exact ⟨0, _, 0, [], Nat.zero_le _, rfl, rfl, ⟨Nat.le_refl _, Nat.zero_le _, .inl ⟨rfl, rfl, rfl⟩⟩, by simp, uA⟩
  case round =>
    obtain ⟨k, D, d, bl, hk, rfl, rfl, so, nd, hu⟩ := hrel
    by_cases hlt : k < l.length
    · have hl := HL.out k hlt
      obtain ⟨g, off, A2, c2, rfl, _, hgl, hc0, hc1, hc2, hc3, hc4, hc5, b0, b1, b3, b5, _⟩ := atImage h hlt
      have q0 := (hu.cell (cell_lt hc0)).trans hc0
      have q1 := (hu.cell (cell_lt hc1)).trans hc1
      have q2 := (hu.cell (cell_lt hc2)).trans hc2
      have q3 := (hu.cell (cell_lt hc3)).trans hc3
      have q4 := (hu.cell (cell_lt hc4)).trans hc4
      have q5 := (hu.cell (cell_lt hc5)).trans hc5
      clear hc0 hc1 hc2 hc3 hc4 hc5
      have HTK : Hid (turn (l.take (k + 1)) = turn (l.take k) ++ [turnI l[k]]) := turn_take l hlt
      have htk := turn_len l hk
      obtain ⟨X, hX⟩ : ∃ X, X = turn (l.take k) := ⟨_, rfl⟩
      rw [← hX] at so htk HTK
      clear hX
      obtain ⟨⟨x0, x1, x2, x3, x4, x5⟩, hxk⟩ : ∃ q, q = l[k] := ⟨_, rfl⟩
      rw [← hxk] at hl q0 q1 q2 q3 q4 q5 b0 b1 b3 b5 HTK
      have HXK := Lib.hid hxk
      clear hxk
      dsimp only at hl q0 q1 q2 q3 q4 q5 b0 b1 b3 b5
      obtain ⟨WA, hWA⟩ : ∃ WA, WA = wr.alloc (.cells #[.string x0, .slice A2 x1.length c2, .bool x2, .string x3, .bool x4, .string x5] 98) := ⟨_, rfl⟩
      have ua : Up wr WA := by rw [hWA]; exact (Up.refl wr).alloc _
      have kn : Bk WA wr.heap.size 98 #[.string x0, .slice A2 x1.length c2, .bool x2, .string x3, .bool x4, .string x5] := by rw [hWA]; exact Bk.new _ _ _
      have HS0 : Hid (WA.cell? ⟨wr.heap.size, 0, none⟩ = some (.string x0) ∧ WA.cell? ⟨wr.heap.size, 1, none⟩ = some (.slice A2 x1.length c2) ∧ WA.cell? ⟨wr.heap.size, 2, none⟩ = some (.bool x2) ∧ WA.cell? ⟨wr.heap.size, 3, none⟩ = some (.string x3) ∧ WA.cell? ⟨wr.heap.size, 4, none⟩ = some (.bool x4) ∧ WA.cell? ⟨wr.heap.size, 5, none⟩ = some (.string x5)) := ⟨kn.cell 0, kn.cell 1, kn.cell 2, kn.cell 3, kn.cell 4, kn.cell 5⟩
      have uw : Up w WA := hu.trans ua
      have hx1 : (X.length + 1) * i0.bytes ≤ 140737488355328 := by rw [hz2]; omega
      have hx2 : X.length + 1 ≤ maxLen := by unfold maxLen; omega
      have hin := so.in_ good_Image
      have hlo := hu.size
      have hlo2 := ua.size
      have hnd : ∀ be : List Nat, be.Nodup → (∀ y ∈ be, WA.heap.size ≤ y) → (bl ++ [be].flatten).Nodup := fun be h1 h2 => by
        simpa using nodup_two (m := WA.heap.size) nd h1 (fun y hy => Nat.lt_of_lt_of_le (hin y hy).2 hlo2) h2
      have SOH := Lib.hid (so.up good_Image ua)
      have b1w := fun W (hW : Up WA W) => SR.up good_S b1 (uw.trans hW)
      have B1W := Lib.hid b1w
      clear so nd b1w
      go_wp2_with fail
      rw [← hWA]
      clear hWA
      go_region_held3 (fun W => W.cell? ⟨wr.heap.size, 0, none⟩ = some (.string x0) ∧ W.cell? ⟨wr.heap.size, 1, none⟩ = some (.slice A2 x1.length c2) ∧ W.cell? ⟨wr.heap.size, 2, none⟩ = some (.bool x2) ∧ W.cell? ⟨wr.heap.size, 3, none⟩ = some (.string x3) ∧ W.cell? ⟨wr.heap.size, 4, none⟩ = some (.bool x4) ∧ W.cell? ⟨wr.heap.size, 5, none⟩ = some (.string x5))
        (first | exact HS0.out | exact up6 (Up.refl WA).drew HS0.out | exact up6 uu1 HS0.out | exact up6 (uu1.alloc _) HS0.out | exact ⟨k2.cell 0, k2.cell 1, k2.cell 2, k2.cell 3, k2.cell 4, k2.cell 5⟩)
        (first
          | (go_at_call 74
             (with_reducible refine (c_l03Subs x1 A2 c2 _ (B1W.out _ (Up.refl WA).drew) hl).mono ?_)
             rintro e w1 ⟨E1, e1, bln, rfl, on, ndn, un⟩
             have uu1 : Up WA w1 := (Up.refl WA).drew.trans un
             have nb := hnd _ ndn (fun y hy => Nat.le_trans (by simp) (on.in_ good_S y hy).1)
             have ro : ∀ W, Up w1 W → Rowed shImage W w.heap.size W.heap.size [.string x0, .slice E1 x1.length e1, .bool x4, .string x5, .bool x2, .string x3] [(x0, x1, x4, x5, x2, x3)] [bln] := fun W hW => Rowed.one good_Image (mkOImage (x := (x0, x1, x4, x5, x2, x3)) b0 ((on.up good_S hW).wide good_S (Nat.le_trans hlo (Nat.le_trans hlo2 (by simp))) (Nat.le_refl _)) b5 b3)
             have s1 : ∀ W, Up w1 W → SO shImage W w.heap.size W.heap.size D d X bl := fun W hW => SOH.out.up good_Image (uu1.trans hW)
             have hs1 : ∀ W, Up w1 W → w.heap.size ≤ W.heap.size := fun W hW => ((uw.trans uu1).trans hW).size)
          | (refine step_app good_Image rfl _ _ _ _ 98 rfl i0 _ Tryz.underlying41 hi0 hz0 hz1 (by rfl) (lo := w.heap.size) (xs := X) (ys := [(x0, x1, x4, x5, x2, x3)]) (bl := bl) (bs := [bln]) (news := [.string x0, .slice E1 x1.length e1, .bool x4, .string x5, .bool x2, .string x3]) (by rw [htk]; rfl) rfl (s1 _ ((Up.refl w1).alloc _)) nb (Src.box (t := 98) (cs := [.string x0, .slice E1 x1.length e1, .bool x4, .string x5, .bool x2, .string x3]) Tryz.underlying41 (Bk.new w1 98 #[.string x0, .slice E1 x1.length e1, .bool x4, .string x5, .bool x2, .string x3]) (by simp [Value.oneCell']) (by rw [hz1]; rfl)) (ro _ ((Up.refl w1).alloc _)) (hs1 _ ((Up.refl w1).alloc _)) hx1 hx2 ?_
             intro D' d' bl' w2 hap
             obtain ⟨so2, nd2, mem2, on2⟩ := hap
             have k2 := ((kn.up uu1).alloc (.cells #[.string x0, .slice E1 x1.length e1, .bool x4, .string x5, .bool x2, .string x3] 98)).only on2 (fun hm => by have := (hin _ hm).2; omega)
             have uw2 : Up w w2 := Up.only ((uw.trans uu1).alloc (.cells #[.string x0, .slice E1 x1.length e1, .bool x4, .string x5, .bool x2, .string x3] 98)) on2 (fun y hy => (hin y hy).1)))
      all_goals
        go_wp2_with fail
        go_roundw
        case rel =>
          refine ⟨k + 1, D', d', bl', by omega, by go_num, rfl, ?_, nd2, uw2⟩
          rw [HTK.out]
          exact so2
        case measure => simp [intOf]; omega
    · obtain rfl : k = l.length := by omega
      rw [List.take_length] at so
      have hll : (turn l).length = l.length := by unfold turn; simp
      go_wp2_with fail
      go_ret
      exact ⟨D, d, bl, by rw [hll]; first | done | rfl, so, nd, hu⟩
set_option maxRecDepth 100000 in
set_option maxHeartbeats 8000000 in
theorem cs_Undo (v : Value) (x : TTree) (B : Option Addr) (d : Nat) (l : List TImage) (w : World) (h : AV shTree w v x) (hn : shTree.sz x ≤ 1048576) (k : SRW shImage w B d l) (hl : (shL shImage).sz l ≤ 1048576) :
    Calls Tryz.prog 42 #[v, .slice B l.length d] w (RpR shTree (undo x l).1 (undo x l).2 w) := by
  have hvv := h
  obtain ⟨cs, rfl, h⟩ := h
  obtain ⟨A0, c0, rfl, b00⟩ := openTree h
  clear h
  have hlen := k.len_le
  obtain ⟨W0, hW0⟩ : ∃ W0, W0 = ((w.alloc (.cells #[.slice A0 x.length c0] 32)).alloc (.cells #[.slice none 0 0] 32)) := ⟨_, rfl⟩
  have u0 : Up w W0 := by rw [hW0]; exact ((Up.refl w).alloc _).alloc _
  have ka0 : Bk W0 w.heap.size 32 #[.slice A0 x.length c0] := by rw [hW0]; exact (Bk.new _ _ _).alloc _
  have kr0 : Bk W0 (w.heap.size + 1) 32 #[.slice none 0 0] := by rw [hW0]; simpa using Bk.new (w.alloc (.cells #[.slice A0 x.length c0] 32)) 32 #[.slice none 0 0]
  have hs0 : W0.heap.size = w.heap.size + 2 := by rw [hW0]; simp
  have ct := fun W (hW : Up w W) => c_specTreeOk _ x W (hvv.up good_Tree hW) hn
  have ci := fun W (hW : Up w W) => c_specImagesOk l B d W (k.up good_Image hW)
  have CI := Lib.hid ci
  cases ht : treeB x
  · have HD := Lib.hid (undo_bad2 (l := l) ht)
    rw [ht] at ct
    have CT := Lib.hid ct
    clear ct ht ci
    go_enter Tryz.func42, Tryz.ntmps42
    go_wp2_with fail
    rw [← hW0]
    refine (CT.out _ u0).mono ?_
    rintro e w1 ⟨rfl, u1⟩
    have kr1 := kr0.up u1
    have gr1 := kr1.cell 0
    have fr1 := kr1.frozen 0
    clear hW0
    go_wp2_with fail
    refine bodyPost_ret (v := .tuple #[.agg #[.slice none 0 0], .int .i64 1]) (by simp [results, Tryz.results42, go_sem, gr1]) rfl ?_
    rw [HD.out]
    exact ToR.rp good_Tree (zeroTree _ _ _ ((u0.trans u1).setCell (by simp) _))
  rw [ht] at ct
  have CT := Lib.hid ct
  clear ct
  cases hi : imagesB l
  · have HD := Lib.hid (undo_bad (x := x) hi)
    rw [hi] at CI
    clear ht ci hi
    go_enter Tryz.func42, Tryz.ntmps42
    go_wp2_with fail
    rw [← hW0]
    refine (CT.out _ u0).mono ?_
    rintro e w1 ⟨rfl, u1⟩
    have kr1 := kr0.up u1
    go_wp2_with fail
    refine (CI.out _ (u0.trans u1)).mono ?_
    rintro e w2 ⟨rfl, u2⟩
    have kr2 := kr1.up u2
    have gr2 := kr2.cell 0
    have fr2 := kr2.frozen 0
    clear hW0
    go_wp2_with fail
    refine bodyPost_ret (v := .tuple #[.agg #[.slice none 0 0], .int .i64 1]) (by simp [results, Tryz.results42, go_sem, gr2]) rfl ?_
    rw [HD.out]
    exact ToR.rp good_Tree (zeroTree _ _ _ (((u0.trans u1).trans u2).setCell (by simp) _))
  have hIP : ImagesP l := of_decide_eq_true hi
  have hl240 := hIP.1
  have cu := fun W (hW : Up w W) => c_l19Turn l B d W (k.up good_Image hW) (by omega) (fun i h => by have := subs_len (img_place (hIP.2 i h).1).1; omega)
  have CU := Lib.hid cu
  have cr := fun W (hW : Up w W) D d' (hS : SRW shImage W D d' (turn l)) => cs_RedoN _ x D d' (turn l) W (hvv.up good_Tree hW) hn hS (by rw [turn_sz]; exact hl)
  have CR := Lib.hid cr
  have HD : Hid (undo x l = redo x (turn l)) := rfl
  rw [hi] at CI
  clear cu cr ht hi hIP ci
  go_enter Tryz.func42, Tryz.ntmps42
  go_wp2_with fail
  rw [← hW0]
  refine (CT.out _ u0).mono ?_
  rintro e w1 ⟨rfl, u1⟩
  go_wp2_with fail
  refine (CI.out _ (u0.trans u1)).mono ?_
  rintro e w2 ⟨rfl, u2⟩
  have uu2 := u0.trans (Up.trans u1 u2)
  have ka2 := ka0.up (Up.trans u1 u2)
  have kr2 := kr0.up (Up.trans u1 u2)
  have g2 : w2.cell? ⟨w.heap.size, 0, none⟩ = some (.slice A0 x.length c0) := ka2.cell 0
  clear hW0
  go_wp2_with fail
  go_region_held3 (fun W => W.cell? ⟨w.heap.size, 0, none⟩ = some (.slice A0 x.length c0))
    (first | exact g2 | exact ka2.drew.cell 0 | exact ka3.cell 0 | exact ka4.cell 0 | exact (ka4.far (p := ⟨w.heap.size + 1, 0, none⟩) (Nat.ne_of_lt (Nat.lt_succ_self _)) _).cell 0)
    (first
      | (go_at_call 84
         refine (CU.out _ (by first | exact uu2 | exact uu2.drew)).mono ?_
         rintro e w3 ⟨D3, d3, bl3, rfl, so3, nd3, u3'⟩
         have u3 : Up w2 w3 := (by first | exact u3' | exact (Up.refl w2).drew.trans u3')
         have ka3 := ka2.up u3)
      | (go_at_call 39
         refine (CR.out _ (uu2.trans u3) _ _ (SR.of_own good_Image so3)).mono ?_
         rintro e w4 ⟨cs4, rfl, hr4, u4⟩
         obtain ⟨A4, c4, rfl, b4⟩ := openTree hr4
         have ka4 := ka3.up u4
         have kr4 := kr2.up (u3.trans u4)
         have gr4 : w4.cell? ⟨w.heap.size + 1, 0, none⟩ = some (.slice none 0 0) := kr4.cell 0
         have fr4 : w4.frozen? ⟨w.heap.size + 1, 0, none⟩ = false := kr4.frozen 0))
  all_goals
    go_wp2_with fail
    refine bodyPost_ret (v := .tuple #[.agg #[.slice A4 (redo x (turn l)).1.length c4], .int .i64 (redo x (turn l)).2]) (by simp [results, Tryz.results42, go_sem, gr4]) rfl ?_
    rw [HD.out]
    have hbut := But.set w4 (w.heap.size + 1) 0 (.slice A4 (redo x (turn l)).1.length c4)
    exact ⟨[.slice A4 (redo x (turn l)).1.length c4], rfl, mkTree ((b4.keep good_Node (fun b h1 h2 => hbut.block b (by have := kr2.lt; have := u3.size; omega))).wide good_Node (Nat.zero_le _) (by rw [hbut.size]; exact Nat.le_refl _)), ((uu2.trans (u3.trans u4))).setCell (by simp) _⟩
set_option maxRecDepth 100000 in
set_option maxHeartbeats 8000000 in
theorem ci_Undo (v : Value) (x : TTree) (B : Option Addr) (d : Nat) (l : List TImage) (w : World) (h : AV shTree w v x) (hn : shTree.sz x ≤ 1048576) (k : SRW shImage w B d l) (hl : (shL shImage).sz l ≤ 1048576) (htab : Tab w) :
    Calls Tryz.prog 43 #[v, .slice B l.length d] w (ToR shTree (undo x l).1 (undo x l).2 w) := by
  obtain ⟨i0, hi0, hz0, hz1, hz2⟩ := info_parts cinfo_Image
  have hvv := h
  obtain ⟨cs, rfl, h⟩ := h
  obtain ⟨A0, c0, rfl, b00⟩ := openTree h
  clear h
  have hlen : l.length ≤ 1048576 := by
    have h2 : (shL shImage).sz l = l.length + (l.map shImage.sz).sum := rfl
    omega
  obtain ⟨W0, hW0⟩ : ∃ W0, W0 = ((w.alloc (.cells #[.slice A0 x.length c0] 32)).alloc (.cells #[.slice none 0 0] 32)) := ⟨_, rfl⟩
  have u0 : Up w W0 := by rw [hW0]; exact ((Up.refl w).alloc _).alloc _
  have ka0 : Bk W0 w.heap.size 32 #[.slice A0 x.length c0] := by rw [hW0]; exact (Bk.new _ _ _).alloc _
  have kr0 : Bk W0 (w.heap.size + 1) 32 #[.slice none 0 0] := by rw [hW0]; simpa using Bk.new (w.alloc (.cells #[.slice A0 x.length c0] 32)) 32 #[.slice none 0 0]
  have hs0 : W0.heap.size = w.heap.size + 2 := by rw [hW0]; simp
  have cr := fun W (hW : Up w W) D d' (hS : SRW shImage W D d' (turn l)) => ci_Redo _ x D d' (turn l) W (hvv.up good_Tree hW) hn hS (by rw [turn_sz]; exact hl) (tab_up htab hW)
  have CR := Lib.hid cr
  have gR := good_Ref (w0 := w) good_Image
  have HD : Hid (undo x l = redo x (turn l)) := rfl
  clear cr hl hn htab hvv
  go_enter Tryz.func43, Tryz.ntmps43
  go_wp2_with fail
  rw [← hW0]
  clear hW0
  go_loopw [6, 12] (fun o i wr => ∃ (k : Nat) (D : Option Addr) (d : Nat) (X : List TImage) (bl : List Nat), k ≤ l.length ∧ Hid (X = turn (l.take k)) ∧ Hid (X.length = k) ∧ i = .int .i64 k ∧ o = .slice D X.length d ∧ SO (shRef w shImage) wr (w.heap.size + 2) wr.heap.size D d X bl ∧ bl.Nodup ∧ Up W0 wr) (fun _ i _ => l.length - (intOf i).toNat)
  case atStart => exact ⟨0, _, 0, [], [], Nat.zero_le _, rfl, rfl, rfl, rfl, ⟨Nat.le_refl _, Nat.zero_le _, .inl ⟨rfl, rfl, rfl⟩⟩, by simp, (Up.refl W0).alloc _⟩
  case round =>
    obtain ⟨j, D, d', X, bl, hj, HX, HXL, rfl, rfl, so, nd, hu⟩ := hrel
    have uw := u0.trans hu
    by_cases hlt : j < l.length
    · obtain ⟨g, off, A2, c2, rfl, _, hgl, hc0, hc1, hc2, hc3, hc4, hc5, b0, b1, b3, b5, _⟩ := atImage k hlt
      have q0 := (uw.cell (cell_lt hc0)).trans hc0
      have q1 := (uw.cell (cell_lt hc1)).trans hc1
      have q2 := (uw.cell (cell_lt hc2)).trans hc2
      have q3 := (uw.cell (cell_lt hc3)).trans hc3
      have q4 := (uw.cell (cell_lt hc4)).trans hc4
      have q5 := (uw.cell (cell_lt hc5)).trans hc5
      clear hc0 hc1 hc2 hc3 hc4 hc5
      have HTK : Hid (turn (l.take (j + 1)) = X ++ [turnI l[j]]) := by rw [HX.out]; exact turn_take l hlt
      have HTL : Hid ((X ++ [turnI l[j]]).length = j + 1) := by unfold Hid; rw [List.length_append, HXL.out]; rfl
      have own1 : (shRef w shImage).own w (w.heap.size + 2) w.heap.size [.string l[j].1, .slice A2 l[j].2.1.length c2, .bool l[j].2.2.2.2.1, .string l[j].2.2.2.2.2, .bool l[j].2.2.1, .string l[j].2.2.2.1] (turnI l[j]) [] := ⟨mkImage (x := turnI l[j]) b0 b1 b5 b3, rfl⟩
      have SOH := Lib.hid so
      have hin := so.in_ gR
      have hxl : X.length ≤ 1048576 := by rw [HXL.out]; omega
      obtain ⟨cells, hcells⟩ : ∃ cells : List Value, cells = [.string l[j].1, .slice A2 l[j].2.1.length c2, .bool l[j].2.2.2.2.1, .string l[j].2.2.2.2.2, .bool l[j].2.2.1, .string l[j].2.2.2.1] := ⟨_, rfl⟩
      have ua : Up wr (wr.alloc (.cells #[.string l[j].1, .slice A2 l[j].2.1.length c2, .bool l[j].2.2.1, .string l[j].2.2.2.1, .bool l[j].2.2.2.2.1, .string l[j].2.2.2.2.2] 98)) := (Up.refl wr).alloc _
      obtain ⟨WA, hWA⟩ : ∃ WA, WA = wr.alloc (.cells #[.string l[j].1, .slice A2 l[j].2.1.length c2, .bool l[j].2.2.1, .string l[j].2.2.2.1, .bool l[j].2.2.2.2.1, .string l[j].2.2.2.2.2] 98) := ⟨_, rfl⟩
      rw [← hWA] at ua
      have kn : Bk WA wr.heap.size 98 #[.string l[j].1, .slice A2 l[j].2.1.length c2, .bool l[j].2.2.1, .string l[j].2.2.2.1, .bool l[j].2.2.2.2.1, .string l[j].2.2.2.2.2] := by rw [hWA]; exact Bk.new _ _ _
      have n0 := kn.cell 0
      have n1 := kn.cell 1
      have n2 := kn.cell 2
      have n3 := kn.cell 3
      have n4 := kn.cell 4
      have n5 := kn.cell 5
      have so1 := so.up gR (ua.alloc (.cells cells.toArray 98))
      have kb : Bk (WA.alloc (.cells cells.toArray 98)) WA.heap.size 98 cells.toArray := Bk.new _ _ _
      have uu : Up W0 (WA.alloc (.cells cells.toArray 98)) := (hu.trans ua).alloc _
      have ro : Rowed (shRef w shImage) (WA.alloc (.cells cells.toArray 98)) (w.heap.size + 2) (WA.alloc (.cells cells.toArray 98)).heap.size cells [turnI l[j]] [[]] := Rowed.one gR (by rw [hcells]; exact own1)
      have nd' : (bl ++ [([] : List Nat)].flatten).Nodup := by simpa using nd
      have hx1 : (X.length + [turnI l[j]].length) * i0.bytes ≤ 140737488355328 := by rw [hz2]; simp; omega
      have hx2 : X.length + [turnI l[j]].length ≤ maxLen := by simp; unfold maxLen; omega
      have hlo : w.heap.size + 2 ≤ (WA.alloc (.cells cells.toArray 98)).heap.size := by have h1 := uu.size; omega
      have hsrc : Src Tryz.prog i0.size 41 (.slice (some ⟨WA.heap.size, 0, none⟩) 1 1) 1 cells (WA.alloc (.cells cells.toArray 98)) := Src.box (t := 98) (cs := cells) Tryz.underlying41 kb (by rw [hcells]; simp [Value.oneCell']) (by rw [hz1, hcells]; rfl)
      rw [hcells] at so1 kb uu ro hlo hsrc
      clear hcells so nd own1
      have hWAs : WA.heap.size = wr.heap.size + 1 := by rw [hWA]; simp
      rw [hWAs] at hsrc
      rw [hWA] at n0 n1 n2 n3 n4 n5
      go_wp2_with (first
        | (at_builtin
           rw [← hWA]
           refine wpList_app gR rfl _ _ _ _ 98 rfl i0 _ Tryz.underlying41 hi0 hz0 hz1 (by rfl) (lo := w.heap.size + 2) (xs := X) (ys := [turnI l[j]]) (bl := bl) (bs := [[]]) rfl rfl so1 nd' hsrc ro hlo hx1 hx2 ?_
           intro D' d2 bl' w2 hap
           obtain ⟨so2, nd2, mem2, on2⟩ := hap))
      go_roundw
      case rel =>
        exact ⟨j + 1, D', d2, X ++ [turnI l[j]], bl', by omega, HTK.out.symm, HTL, by go_num, by simp, so2, nd2, Up.only uu on2 (fun y hy => by have := (hin y hy).1; omega)⟩
      case measure => simp [intOf]; omega
    · obtain rfl : j = l.length := by omega
      have hXT : X = turn l := by rw [HX.out, List.take_length]
      have srT : SRW shImage wr D d' (turn l) := by rw [← hXT]; exact SR.unref good_Image (so.rep gR) uw
      rw [hXT]
      have ga : wr.cell? ⟨w.heap.size, 0, none⟩ = some (.slice A0 x.length c0) := (ka0.up hu).cell 0
      have kr := kr0.up hu
      have co := CR.out wr uw D d' srT
      have CO := Lib.hid co
      clear co CR HX HXL so hXT srT
      go_wp2_with fail
      refine CO.out.mono ?_
      rintro e w4 ⟨cs4, bl4, rfl, o4, nd4, u4⟩
      obtain ⟨A4, c4, _, rfl, rfl, so4⟩ := openOTree o4
      have kr4 := kr.up u4
      have gr4 := kr4.cell 0
      have fr4 := kr4.frozen 0
      have hws := uw.size
      have hus := hu.size
      go_wp2_with fail
      have z4 := (so4.set good_Node (w.heap.size + 1) 0 [.slice A4 (redo x (turn l)).1.length c4] (by omega)).wide good_Node (lo' := w.heap.size) (by omega) (Nat.le_refl _)
      refine bodyPost_ret (v := .tuple #[.agg #[.slice A4 (redo x (turn l)).1.length c4], .int .i64 (redo x (turn l)).2]) (by simp [results, Tryz.results43, go_sem, gr4]) rfl ?_
      rw [HD.out]
      exact ⟨[.slice A4 (redo x (turn l)).1.length c4], _, rfl, mkOTree z4, nd4, (uw.trans u4).setCell (by simp) _⟩
theorem cbg_Undo (x : TTree) (hn : shTree.sz x ≤ 1048576) (l : List TImage) (hl : (shL shImage).sz l ≤ 1048576) : (1 : Int) + (mmTTree.cnt (undo x l).1 : Nat) ≤ 1000000000 := by
  have := cnt_right (undo_P x l)
  omega
end Go.Proofs.YtanjmolgpkffoaaGreatDoor
