/-
  FreeSlots: the program's and the reference's compute one function of a cache.
-/
import Derived.Test.YtkkebgoncdapnaaCk
namespace Go.Proofs.Ytkkebgoncdapnaa
open Go.RowKit
set_option linter.unusedVariables false
set_option linter.unusedSimpArgs false

def freeTo (l : List TSeat) (k : Nat) : List Int := ((List.range k).filter (fun (i : Nat) => decide (2 ≤ i) && !hasS l (i : Int))).map (fun i : Nat => (i : Int))
theorem freeTo_two (l : List TSeat) : freeTo l 2 = [] := by simp [freeTo, List.range_succ]
theorem freeTo_snoc (l : List TSeat) (k : Nat) (h2 : 2 ≤ k) (h : hasS l k = false) : freeTo l (k + 1) = freeTo l k ++ [(k : Int)] := by
  simp [freeTo, List.range_succ, List.filter_append, h2, h]
theorem freeTo_skip (l : List TSeat) (k : Nat) (h : hasS l k = true) : freeTo l (k + 1) = freeTo l k := by
  simp [freeTo, List.range_succ, List.filter_append, h]
theorem freeTo_len (l : List TSeat) (k : Nat) : (freeTo l k).length ≤ k := by
  unfold freeTo
  rw [List.length_map]
  refine Nat.le_trans (List.length_filter_le _ _) ?_
  simp
theorem hasS_app (a b : List TSeat) (n : Int) : hasS (a ++ b) n = (hasS a n || hasS b n) := by simp [hasS]
def freeL (c : TCache) : List Int := freeTo (c.2.1.2.2.2 ++ c.2.2.1.2.2.2 ++ c.2.2.2.1) c.1.2.1.length
def freeSlots (c : TCache) : List Int := if cacheOk c = true then freeL c else []
theorem cinfo_I : (Try.prog.info? 2).map (fun i => (i.zero, i.size, i.bytes)) = some (some (.int .i64 0), 1, 8) := by kernel_rfl
theorem diskLen {x : TDisk} (h : shDisk.sz x ≤ 1048576) : x.2.1.length ≤ 1048576 := by
  obtain ⟨x0, x1, x2⟩ := x
  have hs : shDisk.sz (x0, x1, x2) = 0 + ((x1.length + (x1.map shS.sz).sum) + (x2.length + (x2.map shPut.sz).sum)) := rfl
  dsimp only
  omega
theorem cbg_FreeSlots (x : TCache) (hn : shCache.sz x ≤ 1048576) : (1 : Int) + ((mkL mkI).cnt (freeSlots x) : Nat) ≤ 1000000000 := by
  have h1 : (freeSlots x).length ≤ 1048576 := by
    unfold freeSlots
    split
    · exact Nat.le_trans (freeTo_len _ _) (diskLen (cache_sz hn).1)
    · simp
  have h2 : (mkL mkI).cnt (freeSlots x) = (freeSlots x).length := by
    show ((freeSlots x).map (fun _ => 1)).sum = _
    rw [sum_const]; omega
  omega
theorem cnt_Cache (x : TCache) (hn : shCache.sz x ≤ 1048576) : mmTCache.cnt x ≤ 16000000 := by
  obtain ⟨h1, h2, h3, h4, h5⟩ := cache_sz hn
  have hd := cnt_Disk x.1 h1
  have e : mmTCache.cnt x = mmTDisk.cnt x.1 + ((0 + (0 + (0 + (x.2.1.2.2.2.map (fun _ => 2)).sum))) + ((0 + (0 + (0 + (x.2.2.1.2.2.2.map (fun _ => 2)).sum))) + ((x.2.2.2.1.map (fun _ => 2)).sum + (x.2.2.2.2.map (fun _ => 1)).sum))) := rfl
  rw [e, sum_const, sum_const, sum_const, sum_const]
  omega
theorem cacheOk_len {c : TCache} (h : cacheOk c = true) : 4 ≤ c.1.2.1.length := by
  simp only [cacheOk, cachePre, Bool.and_eq_true, Bool.not_eq_true', decide_eq_false_iff_not] at h
  omega

set_option maxRecDepth 100000 in
set_option maxHeartbeats 8000000 in
theorem c_free (B : Nat) (cs : List Value) (x : TCache) (w : World) (h : shCache.rep w 0 w.heap.size cs x) (hB : Bk w B 41 cs.toArray) (hn : shCache.sz x ≤ 1048576) (h4 : 4 ≤ x.1.2.1.length) :
    Calls Try.prog 47 #[.pointer (some ⟨B, 0, none⟩)] w (ToL shI (freeL x) w) := by
  obtain ⟨A1, c1, A2, c2, A6, c6, A10, c10, A11, c11, A12, c12, rfl, b0, b1, b2, b3, b4, b5, b6, b7, b8, b9, b10, b11, b12⟩ := openCache h
  have hl1 := b1.len_le
  obtain ⟨ns1, ns6, ns10, ns11, ns12⟩ := cache_sz hn
  have hnl : x.1.2.1.length ≤ 1048576 := diskLen ns1
  obtain ⟨i0, hi0, hz0, hz1, hz2⟩ := info_parts cinfo_I
  have hB' : Bk w B 41 #[.int .i64 x.1.1, .slice A1 x.1.2.1.length c1, .slice A2 x.1.2.2.length c2, .int .i64 x.2.1.1, .int .i64 x.2.1.2.1, .int .i64 x.2.1.2.2.1, .slice A6 x.2.1.2.2.2.length c6, .int .i64 x.2.2.1.1, .int .i64 x.2.2.1.2.1, .int .i64 x.2.2.1.2.2.1, .slice A10 x.2.2.1.2.2.2.length c10, .slice A11 x.2.2.2.1.length c11, .slice A12 x.2.2.2.2.length c12] := hB
  replace hB := hB'; clear hB'
  have kA := hB.drew
  go_enter Try.func47, Try.ntmps47
  go_wp2_with fail
  go_region_held3 (fun W => W.cell? ⟨B, 6, none⟩ = some (.slice A6 x.2.1.2.2.2.length c6) ∧ W.cell? ⟨B, 10, none⟩ = some (.slice A10 x.2.2.1.2.2.2.length c10) ∧ W.cell? ⟨B, 11, none⟩ = some (.slice A11 x.2.2.2.1.length c11))
    (first | exact ⟨kA.cell 6, kA.cell 10, kA.cell 11⟩ | exact ⟨(kA.alloc _).cell 6, (kA.alloc _).cell 10, (kA.alloc _).cell 11⟩ | exact ⟨k1.cell 6, k1.cell 10, k1.cell 11⟩)
    (first
      | (go_at_call 102; refine (c_Concat3Seat x.2.1.2.2.2 x.2.2.1.2.2.2 x.2.2.2.1 A6 A10 A11 c6 c10 c11 _ _ _ (b6.up good_Seat (((Up.refl w).drew).alloc _)) (b10.up good_Seat (((Up.refl w).drew).alloc _)) (b11.up good_Seat (((Up.refl w).drew).alloc _)) (Bk.new _ _ _) ns6 ns10 ns11).mono ?_; rintro e w1 ⟨D0, d0, bl0, rfl, o1, nd1, u1⟩; replace u1 := ((((Up.refl w).drew).alloc _).trans u1); have k1 := hB.up u1))
  clear kA
  obtain ⟨L, hL⟩ : ∃ L, L = x.2.1.2.2.2 ++ x.2.2.1.2.2.2 ++ x.2.2.2.1 := ⟨_, rfl⟩
  have HF : Hid (freeL x = freeTo L x.1.2.1.length) := by unfold Hid freeL; rw [← hL]
  rw [← hL] at o1
  have hLl : x.2.1.2.2.2.length + (x.2.2.1.2.2.2.length + x.2.2.2.1.length) = L.length := by rw [hL]; simp [Nat.add_assoc]
  clear hL
  rw [hLl]
  clear hLl
  have sL := SR.of_own good_Seat o1
  clear o1 nd1
  have hz := u1.size
  go_wp2_with fail
  go_loopw [4, 5] (fun bv i wr => ∃ (k : Nat) (D : Option Addr) (d : Nat) (bl : List Nat), 2 ≤ k ∧ k ≤ x.1.2.1.length ∧ i = .int .i64 k ∧ bv = .slice D (freeTo L k).length d ∧ SO shI wr w1.heap.size wr.heap.size D d (freeTo L k) bl ∧ bl.Nodup ∧ Up w1 wr) (fun _ i _ => x.1.2.1.length - (intOf i).toNat)
  case atStart => exact ⟨2, _, 0, [], Nat.le_refl _, by omega, rfl, by rw [freeTo_two]; rfl, by rw [freeTo_two]; exact ⟨Nat.le_refl _, Nat.zero_le _, .inl ⟨rfl, rfl, rfl⟩⟩, by simp, (Up.refl w1).alloc _⟩
  case round =>
    obtain ⟨k, D, d, bl, hk2, hkn, rfl, rfl, so, nd, hu⟩ := hrel
    have uw := u1.trans hu
    have ka := hB.up uw
    have zk := ka.lt
    have hlo := hu.size
    have ga_0 : wr.cell? ⟨B, 0, none⟩ = some (.int .i64 x.1.1) := ka.cell 0
    have ga_1 : wr.cell? ⟨B, 1, none⟩ = some (.slice A1 x.1.2.1.length c1) := ka.cell 1
    have ga_2 : wr.cell? ⟨B, 2, none⟩ = some (.slice A2 x.1.2.2.length c2) := ka.cell 2
    go_wp2_with fail
    refine (c_has _ x.1 _ _ ⟨_, rfl, mkDisk (x := x.1) b0 (b1.up good_S uw) (b2.up good_Put uw)⟩).mono ?_
    rintro e w2 ⟨rfl, u2⟩
    clear ga_0 ga_1 ga_2
    have hu2 := hu.trans u2
    replace so := so.up good_I u2
    have hlo2 := hu2.size
    by_cases hlt : k < x.1.2.1.length
    · have q : inB (k : Int) 0 ((x.1.2.1.length : Int) - 1) = true := inB_t.2 ⟨by omega, by omega⟩
      rw [q]
      go_wp2_with fail
      refine (c_hasSlot L D0 d0 _ _ (sL.up good_Seat hu2)).mono ?_
      rintro e w3 ⟨rfl, u3⟩
      have hu3 := hu2.trans u3
      replace so := so.up good_I u3
      have hlo3 := hu3.size
      cases qh : hasS L k
      · have HS := Lib.hid (freeTo_snoc L k hk2 qh)
        have kq := Bk.new w3 2 #[.int .i64 (k : Int)]
        have uq := (Up.refl w3).alloc (.cells #[.int .i64 (k : Int)] 2)
        have ho : shI.own (w3.alloc (.cells #[.int .i64 (k : Int)] 2)) w1.heap.size (w3.alloc (.cells #[.int .i64 (k : Int)] 2)).heap.size [.int .i64 (k : Int)] (k : Int) [] := ⟨⟨rfl, by omega, by omega⟩, rfl⟩
        have hlen := freeTo_len L k
        have hx1 : ((freeTo L k).length + 1) * i0.bytes ≤ 140737488355328 := by rw [hz2]; omega
        have hx2 : (freeTo L k).length + 1 ≤ maxLen := by unfold maxLen; omega
        go_wp2_with (first
          | (at_builtin
             refine wpList_app good_I rfl _ _ _ _ 2 rfl i0 _ Try.underlying29 hi0 hz0 hz1 (by rfl) (lo := w1.heap.size) (xs := freeTo L k) (ys := [(k : Int)]) (bl := bl) (bs := [[]]) (news := [.int .i64 (k : Int)]) rfl rfl (so.up good_I uq) (by simpa using nd) (Src.box (t := 2) Try.underlying29 kq (by simp [Value.oneCell']) (by rw [hz1]; rfl)) (Rowed.one good_I ho) (by simp; omega) hx1 hx2 ?_
             intro D' d' bl' w9 hap
             obtain ⟨so9, nd9, mem9, on9⟩ := hap))
        go_roundw
        case rel =>
          refine ⟨k + 1, D', d', bl', by omega, by omega, by go_num, by rw [HS.out, List.length_append]; rfl, ?_, nd9, (hu3.trans uq).only on9 (fun y hy => (so.in_ good_I y hy).1)⟩
          rw [HS.out]
          exact so9
        case measure => simp [intOf]; omega
      · have HS := Lib.hid (freeTo_skip L k qh)
        go_wp2_with fail
        go_roundw
        case rel => exact ⟨k + 1, D, d, bl, by omega, by omega, by go_num, by rw [HS.out], by rw [HS.out]; exact so, nd, hu3⟩
        case measure => simp [intOf]; omega
    · have q : inB (k : Int) 0 ((x.1.2.1.length : Int) - 1) = false := inB_f.2 (by omega)
      rw [q]
      obtain rfl : k = x.1.2.1.length := by omega
      go_wp2_with fail
      go_ret
      rw [← HF.out] at so ⊢
      exact ⟨D, d, bl, rfl, so.wide good_I hz (Nat.le_refl _), nd, u1.trans hu2⟩

set_option maxRecDepth 100000 in
set_option maxHeartbeats 8000000 in
theorem ci_FreeSlots (v0 : Value) (x : TCache) (w : World) (h0 : AV shCache w v0 x) (hn : shCache.sz x ≤ 1048576) : Calls Try.prog 11 #[v0] w (ToL shI (freeSlots x) w) := by
  obtain ⟨cs, rfl, h⟩ := h0
  have hw := fun (W : World) (u : Up w W) => AV.up good_Cache (⟨_, rfl, h⟩ : AV shCache w (.agg cs.toArray) x) u
  have hr := fun (W : World) (u : Up w W) => (good_Cache.wide (good_Cache.keep h (u.keeps (Nat.le_refl _))) (Nat.zero_le _) u.size : shCache.rep W 0 W.heap.size cs x)
  obtain ⟨A1, c1, A2, c2, A6, c6, A10, c10, A11, c11, A12, c12, hcs, _⟩ := openCache h
  subst hcs
  have u0 : Up w (w.alloc (.cells #[.int .i64 x.1.1, .slice A1 x.1.2.1.length c1, .slice A2 x.1.2.2.length c2, .int .i64 x.2.1.1, .int .i64 x.2.1.2.1, .int .i64 x.2.1.2.2.1, .slice A6 x.2.1.2.2.2.length c6, .int .i64 x.2.2.1.1, .int .i64 x.2.2.1.2.1, .int .i64 x.2.2.1.2.2.1, .slice A10 x.2.2.1.2.2.2.length c10, .slice A11 x.2.2.2.1.length c11, .slice A12 x.2.2.2.2.length c12] 41)) := (Up.refl _).alloc _
  have k0 := Bk.new w 41 #[.int .i64 x.1.1, .slice A1 x.1.2.1.length c1, .slice A2 x.1.2.2.length c2, .int .i64 x.2.1.1, .int .i64 x.2.1.2.1, .int .i64 x.2.1.2.2.1, .slice A6 x.2.1.2.2.2.length c6, .int .i64 x.2.2.1.1, .int .i64 x.2.2.1.2.1, .int .i64 x.2.2.1.2.2.1, .slice A10 x.2.2.1.2.2.2.length c10, .slice A11 x.2.2.2.1.length c11, .slice A12 x.2.2.2.2.length c12]
  go_enter Try.func11, Try.ntmps11
  go_wp2_with fail
  refine (ci_CacheOk _ x _ (hw _ u0) hn).mono ?_
  rintro e w1 ⟨rfl, u1⟩
  have uu1 := u0.trans u1
  have k1 := k0.up u1
  cases q : cacheOk x
  · have HN : Hid (freeSlots x = []) := by unfold Hid freeSlots; simp [q]
    go_wp2_with fail
    go_ret
    rw [HN.out]
    exact ⟨none, 0, [], rfl, SO.nil _ _ _, by simp, uu1⟩
  · have HN : Hid (freeSlots x = freeL x) := by unfold Hid freeSlots; simp [q]
    have h4 := cacheOk_len q
    have hz := uu1.size
    go_wp2_with fail
    refine (c_free _ _ x _ (hr _ uu1) k1 hn h4).mono ?_
    rintro e w2 ⟨D, d, bl, rfl, so, nd, u2⟩
    go_wp2_with fail
    go_ret
    rw [HN.out]
    exact ⟨D, d, bl, rfl, so.wide good_I hz (Nat.le_refl _), nd, uu1.trans u2⟩

set_option maxRecDepth 100000 in
set_option maxHeartbeats 8000000 in
theorem c_l18Free (v0 : Value) (x : TCache) (w : World) (h : AV shCache w v0 x) (hn : shCache.sz x ≤ 1048576) (h4 : 4 ≤ x.1.2.1.length) : Calls Try.prog 41 #[v0] w (ToL shI (freeL x) w) := by
  obtain ⟨cs, rfl, h⟩ := h
  obtain ⟨A1, c1, A2, c2, A6, c6, A10, c10, A11, c11, A12, c12, rfl, b0, b1, b2, b3, b4, b5, b6, b7, b8, b9, b10, b11, b12⟩ := openCache h
  have hl1 := b1.len_le
  obtain ⟨ns1, ns6, ns10, ns11, ns12⟩ := cache_sz hn
  have hnl : x.1.2.1.length ≤ 1048576 := diskLen ns1
  obtain ⟨i0, hi0, hz0, hz1, hz2⟩ := info_parts cinfo_I
  have ua : Up w (w.alloc (.cells #[.int .i64 x.1.1, .slice A1 x.1.2.1.length c1, .slice A2 x.1.2.2.length c2, .int .i64 x.2.1.1, .int .i64 x.2.1.2.1, .int .i64 x.2.1.2.2.1, .slice A6 x.2.1.2.2.2.length c6, .int .i64 x.2.2.1.1, .int .i64 x.2.2.1.2.1, .int .i64 x.2.2.1.2.2.1, .slice A10 x.2.2.1.2.2.2.length c10, .slice A11 x.2.2.2.1.length c11, .slice A12 x.2.2.2.2.length c12] 41)) := (Up.refl _).alloc _
  have hB := Bk.new w 41 #[.int .i64 x.1.1, .slice A1 x.1.2.1.length c1, .slice A2 x.1.2.2.length c2, .int .i64 x.2.1.1, .int .i64 x.2.1.2.1, .int .i64 x.2.1.2.2.1, .slice A6 x.2.1.2.2.2.length c6, .int .i64 x.2.2.1.1, .int .i64 x.2.2.1.2.1, .int .i64 x.2.2.1.2.2.1, .slice A10 x.2.2.1.2.2.2.length c10, .slice A11 x.2.2.2.1.length c11, .slice A12 x.2.2.2.2.length c12]
  have hzB := hB.lt
  obtain ⟨L, hL⟩ : ∃ L, L = x.2.1.2.2.2 ++ x.2.2.1.2.2.2 ++ x.2.2.2.1 := ⟨_, rfl⟩
  have HF : Hid (freeL x = freeTo L x.1.2.1.length) := by unfold Hid freeL; rw [← hL]
  have HU : Hid (∀ n, hasS L n = (hasS x.2.1.2.2.2 n || hasS x.2.2.1.2.2.2 n || hasS x.2.2.2.1 n)) := by unfold Hid; intro n; rw [hL, hasS_app, hasS_app]
  clear hL
  go_enter Try.func41, Try.ntmps41
  go_wp2_with fail
  go_loopw [3, 4] (fun bv i wr => ∃ (k : Nat) (D : Option Addr) (d : Nat) (bl : List Nat), 2 ≤ k ∧ k ≤ x.1.2.1.length ∧ i = .int .i64 k ∧ bv = .slice D (freeTo L k).length d ∧ SO shI wr (w.heap.size + 1) wr.heap.size D d (freeTo L k) bl ∧ bl.Nodup ∧ Up (w.alloc (.cells #[.int .i64 x.1.1, .slice A1 x.1.2.1.length c1, .slice A2 x.1.2.2.length c2, .int .i64 x.2.1.1, .int .i64 x.2.1.2.1, .int .i64 x.2.1.2.2.1, .slice A6 x.2.1.2.2.2.length c6, .int .i64 x.2.2.1.1, .int .i64 x.2.2.1.2.1, .int .i64 x.2.2.1.2.2.1, .slice A10 x.2.2.1.2.2.2.length c10, .slice A11 x.2.2.2.1.length c11, .slice A12 x.2.2.2.2.length c12] 41)) wr) (fun _ i _ => x.1.2.1.length - (intOf i).toNat)
  case atStart => exact ⟨2, _, 0, [], Nat.le_refl _, by omega, rfl, by rw [freeTo_two]; rfl, by rw [freeTo_two]; exact ⟨Nat.le_refl _, Nat.zero_le _, .inl ⟨rfl, rfl, rfl⟩⟩, by simp, (Up.refl _).alloc _⟩
  case round =>
    obtain ⟨k, D, d, bl, hk2, hkn, rfl, rfl, so, nd, hu⟩ := hrel
    have uw := ua.trans hu
    have ka := hB.up hu
    have zk := ka.lt
    have hlo : w.heap.size + 1 ≤ wr.heap.size := by simpa using hu.size
    have ga_1 : wr.cell? ⟨w.heap.size, 1, none⟩ = some (.slice A1 x.1.2.1.length c1) := ka.cell 1
    have ga_6 : wr.cell? ⟨w.heap.size, 6, none⟩ = some (.slice A6 x.2.1.2.2.2.length c6) := ka.cell 6
    have ga_10 : wr.cell? ⟨w.heap.size, 10, none⟩ = some (.slice A10 x.2.2.1.2.2.2.length c10) := ka.cell 10
    have ga_11 : wr.cell? ⟨w.heap.size, 11, none⟩ = some (.slice A11 x.2.2.2.1.length c11) := ka.cell 11
    by_cases hlt : k < x.1.2.1.length
    · go_wp2_with fail
      refine (c_l18Uses x.2.1.2.2.2 A6 c6 _ _ (b6.up good_Seat uw)).mono ?_
      rintro e w2 ⟨rfl, u2⟩
      have uw2 := uw.trans u2
      have hu2 := hu.trans u2
      have ka2 := ka.up u2
      replace so := so.up good_I u2
      have zk2 := ka2.lt
      have hlo2 : w.heap.size + 1 ≤ w2.heap.size := by simpa using hu2.size
      clear ga_1 ga_6 ga_10 ga_11
      have gb_1 : w2.cell? ⟨w.heap.size, 1, none⟩ = some (.slice A1 x.1.2.1.length c1) := ka2.cell 1
      have gb_6 : w2.cell? ⟨w.heap.size, 6, none⟩ = some (.slice A6 x.2.1.2.2.2.length c6) := ka2.cell 6
      have gb_10 : w2.cell? ⟨w.heap.size, 10, none⟩ = some (.slice A10 x.2.2.1.2.2.2.length c10) := ka2.cell 10
      have gb_11 : w2.cell? ⟨w.heap.size, 11, none⟩ = some (.slice A11 x.2.2.2.1.length c11) := ka2.cell 11
      cases q0 : hasS x.2.1.2.2.2 k
      rotate_left
      · have HS : Hid (freeTo L (k + 1) = freeTo L k) := freeTo_skip L k (by rw [HU.out]; simp [q0])
        go_wp2_with fail
        go_roundw
        case rel => exact ⟨k + 1, D, d, bl, by omega, by omega, by go_num, by rw [HS.out], by rw [HS.out]; exact so, nd, hu2⟩
        case measure => simp [intOf]; omega
      go_wp2_with fail
      refine (c_l18Uses x.2.2.1.2.2.2 A10 c10 _ _ (b10.up good_Seat uw2)).mono ?_
      rintro e w3 ⟨rfl, u3⟩
      have uw3 := uw2.trans u3
      have hu3 := hu2.trans u3
      have ka3 := ka2.up u3
      replace so := so.up good_I u3
      have zk3 := ka3.lt
      have hlo3 : w.heap.size + 1 ≤ w3.heap.size := by simpa using hu3.size
      clear gb_1 gb_6 gb_10 gb_11
      have gc_1 : w3.cell? ⟨w.heap.size, 1, none⟩ = some (.slice A1 x.1.2.1.length c1) := ka3.cell 1
      have gc_6 : w3.cell? ⟨w.heap.size, 6, none⟩ = some (.slice A6 x.2.1.2.2.2.length c6) := ka3.cell 6
      have gc_10 : w3.cell? ⟨w.heap.size, 10, none⟩ = some (.slice A10 x.2.2.1.2.2.2.length c10) := ka3.cell 10
      have gc_11 : w3.cell? ⟨w.heap.size, 11, none⟩ = some (.slice A11 x.2.2.2.1.length c11) := ka3.cell 11
      cases q1 : hasS x.2.2.1.2.2.2 k
      rotate_left
      · have HS : Hid (freeTo L (k + 1) = freeTo L k) := freeTo_skip L k (by rw [HU.out]; simp [q1])
        go_wp2_with fail
        go_roundw
        case rel => exact ⟨k + 1, D, d, bl, by omega, by omega, by go_num, by rw [HS.out], by rw [HS.out]; exact so, nd, hu3⟩
        case measure => simp [intOf]; omega
      go_wp2_with fail
      refine (c_l18Uses x.2.2.2.1 A11 c11 _ _ (b11.up good_Seat uw3)).mono ?_
      rintro e w4 ⟨rfl, u4⟩
      have uw4 := uw3.trans u4
      have hu4 := hu3.trans u4
      have ka4 := ka3.up u4
      replace so := so.up good_I u4
      have zk4 := ka4.lt
      have hlo4 : w.heap.size + 1 ≤ w4.heap.size := by simpa using hu4.size
      clear gc_1 gc_6 gc_10 gc_11
      have gd_1 : w4.cell? ⟨w.heap.size, 1, none⟩ = some (.slice A1 x.1.2.1.length c1) := ka4.cell 1
      have gd_6 : w4.cell? ⟨w.heap.size, 6, none⟩ = some (.slice A6 x.2.1.2.2.2.length c6) := ka4.cell 6
      have gd_10 : w4.cell? ⟨w.heap.size, 10, none⟩ = some (.slice A10 x.2.2.1.2.2.2.length c10) := ka4.cell 10
      have gd_11 : w4.cell? ⟨w.heap.size, 11, none⟩ = some (.slice A11 x.2.2.2.1.length c11) := ka4.cell 11
      cases q2 : hasS x.2.2.2.1 k
      · have HS : Hid (freeTo L (k + 1) = freeTo L k ++ [(k : Int)]) := freeTo_snoc L k hk2 (by rw [HU.out]; simp [q0, q1, q2])
        have kq := Bk.new w4 2 #[.int .i64 (k : Int)]
        have uq := (Up.refl w4).alloc (.cells #[.int .i64 (k : Int)] 2)
        have ho : shI.own (w4.alloc (.cells #[.int .i64 (k : Int)] 2)) (w.heap.size + 1) (w4.alloc (.cells #[.int .i64 (k : Int)] 2)).heap.size [.int .i64 (k : Int)] (k : Int) [] := ⟨⟨rfl, by omega, by omega⟩, rfl⟩
        have hlen := freeTo_len L k
        have hx1 : ((freeTo L k).length + 1) * i0.bytes ≤ 140737488355328 := by rw [hz2]; omega
        have hx2 : (freeTo L k).length + 1 ≤ maxLen := by unfold maxLen; omega
        go_wp2_with (first
          | (at_builtin
             refine wpList_app good_I rfl _ _ _ _ 2 rfl i0 _ Try.underlying29 hi0 hz0 hz1 (by rfl) (lo := (w.heap.size + 1)) (xs := freeTo L k) (ys := [(k : Int)]) (bl := bl) (bs := [[]]) (news := [.int .i64 (k : Int)]) rfl rfl (so.up good_I uq) (by simpa using nd) (Src.box (t := 2) Try.underlying29 kq (by simp [Value.oneCell']) (by rw [hz1]; rfl)) (Rowed.one good_I ho) (by simp; omega) hx1 hx2 ?_
             intro D' d' bl' w9 hap
             obtain ⟨so9, nd9, mem9, on9⟩ := hap))
        go_roundw
        case rel =>
          refine ⟨k + 1, D', d', bl', by omega, by omega, by go_num, by rw [HS.out, List.length_append]; rfl, ?_, nd9, (hu4.trans uq).only on9 (fun y hy => by simpa using (so.in_ good_I y hy).1)⟩
          rw [HS.out]
          exact so9
        case measure => simp [intOf]; omega
      · have HS : Hid (freeTo L (k + 1) = freeTo L k) := freeTo_skip L k (by rw [HU.out]; simp [q2])
        go_wp2_with fail
        go_roundw
        case rel => exact ⟨k + 1, D, d, bl, by omega, by omega, by go_num, by rw [HS.out], by rw [HS.out]; exact so, nd, hu4⟩
        case measure => simp [intOf]; omega
    · obtain rfl : k = x.1.2.1.length := by omega
      go_wp2_with fail
      go_ret
      rw [← HF.out] at so ⊢
      exact ⟨D, d, bl, rfl, so.wide good_I (by omega) (Nat.le_refl _), nd, uw⟩

set_option maxRecDepth 100000 in
set_option maxHeartbeats 8000000 in
theorem cs0_FreeSlots (v0 : Value) (x : TCache) (w : World) (h0 : AV shCache w v0 x) (hn : shCache.sz x ≤ 1048576) : Calls Try.prog 9 #[v0] w (ToL shI (freeSlots x) w) := by
  obtain ⟨cs, rfl, h⟩ := h0
  have hw := fun (W : World) (u : Up w W) => AV.up good_Cache (⟨_, rfl, h⟩ : AV shCache w (.agg cs.toArray) x) u
  have hr := fun (W : World) (u : Up w W) => (good_Cache.wide (good_Cache.keep h (u.keeps (Nat.le_refl _))) (Nat.zero_le _) u.size : shCache.rep W 0 W.heap.size cs x)
  obtain ⟨A1, c1, A2, c2, A6, c6, A10, c10, A11, c11, A12, c12, hcs, _⟩ := openCache h
  subst hcs
  have u0 : Up w (w.alloc (.cells #[.int .i64 x.1.1, .slice A1 x.1.2.1.length c1, .slice A2 x.1.2.2.length c2, .int .i64 x.2.1.1, .int .i64 x.2.1.2.1, .int .i64 x.2.1.2.2.1, .slice A6 x.2.1.2.2.2.length c6, .int .i64 x.2.2.1.1, .int .i64 x.2.2.1.2.1, .int .i64 x.2.2.1.2.2.1, .slice A10 x.2.2.1.2.2.2.length c10, .slice A11 x.2.2.2.1.length c11, .slice A12 x.2.2.2.2.length c12] 41)) := (Up.refl _).alloc _
  have k0 := Bk.new w 41 #[.int .i64 x.1.1, .slice A1 x.1.2.1.length c1, .slice A2 x.1.2.2.length c2, .int .i64 x.2.1.1, .int .i64 x.2.1.2.1, .int .i64 x.2.1.2.2.1, .slice A6 x.2.1.2.2.2.length c6, .int .i64 x.2.2.1.1, .int .i64 x.2.2.1.2.1, .int .i64 x.2.2.1.2.2.1, .slice A10 x.2.2.1.2.2.2.length c10, .slice A11 x.2.2.2.1.length c11, .slice A12 x.2.2.2.2.length c12]
  go_enter Try.func9, Try.ntmps9
  go_wp2_with fail
  refine (cs_CacheOk _ x _ (hw _ u0) hn).mono ?_
  rintro e w1 ⟨rfl, u1⟩
  have uu1 := u0.trans u1
  have k1 := k0.up u1
  have g0 : w1.cell? ⟨w.heap.size, 0, none⟩ = some (.int .i64 x.1.1) := k1.cell 0
  have g1 : w1.cell? ⟨w.heap.size, 1, none⟩ = some (.slice A1 x.1.2.1.length c1) := k1.cell 1
  have g2 : w1.cell? ⟨w.heap.size, 2, none⟩ = some (.slice A2 x.1.2.2.length c2) := k1.cell 2
  have g3 : w1.cell? ⟨w.heap.size, 3, none⟩ = some (.int .i64 x.2.1.1) := k1.cell 3
  have g4 : w1.cell? ⟨w.heap.size, 4, none⟩ = some (.int .i64 x.2.1.2.1) := k1.cell 4
  have g5 : w1.cell? ⟨w.heap.size, 5, none⟩ = some (.int .i64 x.2.1.2.2.1) := k1.cell 5
  have g6 : w1.cell? ⟨w.heap.size, 6, none⟩ = some (.slice A6 x.2.1.2.2.2.length c6) := k1.cell 6
  have g7 : w1.cell? ⟨w.heap.size, 7, none⟩ = some (.int .i64 x.2.2.1.1) := k1.cell 7
  have g8 : w1.cell? ⟨w.heap.size, 8, none⟩ = some (.int .i64 x.2.2.1.2.1) := k1.cell 8
  have g9 : w1.cell? ⟨w.heap.size, 9, none⟩ = some (.int .i64 x.2.2.1.2.2.1) := k1.cell 9
  have g10 : w1.cell? ⟨w.heap.size, 10, none⟩ = some (.slice A10 x.2.2.1.2.2.2.length c10) := k1.cell 10
  have g11 : w1.cell? ⟨w.heap.size, 11, none⟩ = some (.slice A11 x.2.2.2.1.length c11) := k1.cell 11
  have g12 : w1.cell? ⟨w.heap.size, 12, none⟩ = some (.slice A12 x.2.2.2.2.length c12) := k1.cell 12
  cases q : cacheOk x
  · have HN : Hid (freeSlots x = []) := by unfold Hid freeSlots; simp [q]
    go_wp2_with fail
    go_ret
    rw [HN.out]
    exact ⟨_, 0, [], rfl, ⟨Nat.le_refl _, Nat.zero_le _, .inl ⟨rfl, rfl, rfl⟩⟩, by simp, uu1.alloc _⟩
  · have HN : Hid (freeSlots x = freeL x) := by unfold Hid freeSlots; simp [q]
    have h4 := cacheOk_len q
    have hz := uu1.size
    go_wp2_with fail
    refine (c_l18Free _ x _ (hw _ uu1) hn h4).mono ?_
    rintro e w2 ⟨D, d, bl, rfl, so, nd, u2⟩
    go_wp2_with fail
    go_ret
    rw [HN.out]
    exact ⟨D, d, bl, rfl, so.wide good_I hz (Nat.le_refl _), nd, uu1.trans u2⟩

theorem cs_FreeSlots (v0 : Value) (x : TCache) (w : World) (h0 : AV shCache w v0 x) (hn : shCache.sz x ≤ 1048576) : Calls Try.prog 9 #[v0] w (RpL shI (freeSlots x) w) := (cs0_FreeSlots v0 x w h0 hn).mono fun _ _ h => h.rp good_I
end Go.Proofs.Ytkkebgoncdapnaa
