/-
  NoteDirty, both.
-/
import Derived.Test.YtfehlcbaalbajaaGreatNv
namespace Go.Proofs.YtfehlcbaalbajaaGreat
open Go.RowKit
set_option linter.unusedVariables false
set_option linter.unusedSimpArgs false

set_option maxRecDepth 100000 in
set_option maxHeartbeats 16000000 in
theorem ci0_NoteDirty (v : Value) (x : TCache) (ids : List Int) (A : Option Addr) (c : Nat) (w : World) (h : AV shCache w v x) (hn : shCache.sz x ≤ 1048576) (hi : SRW shI w A c ids) : Calls Tryz.prog 8 #[v, .slice A ids.length c] w (ToR shCache (noteV x ids) (noteK x ids) w) := by
  obtain ⟨cs, rfl, h⟩ := h
  obtain ⟨A1, c1, A2, c2, A6, c6, A10, c10, A11, c11, A12, c12, rfl, b0, b1, b2, b3, b4, b5, b6, b7, b8, b9, b10, b11, b12⟩ := openCache h
  clear h
  obtain ⟨ns1, ns6, ns10, ns11, ns12⟩ := cache_sz hn
  have uu : Up w ((w.alloc (.cells #[.int .i64 x.1.1, .slice A1 x.1.2.1.length c1, .slice A2 x.1.2.2.length c2, .int .i64 x.2.1.1, .int .i64 x.2.1.2.1, .int .i64 x.2.1.2.2.1, .slice A6 x.2.1.2.2.2.length c6, .int .i64 x.2.2.1.1, .int .i64 x.2.2.1.2.1, .int .i64 x.2.2.1.2.2.1, .slice A10 x.2.2.1.2.2.2.length c10, .slice A11 x.2.2.2.1.length c11, .slice A12 x.2.2.2.2.length c12] 40)).alloc (.cells #[.int .i64 0, .slice none 0 0, .slice none 0 0, .int .i64 0, .int .i64 0, .int .i64 0, .slice none 0 0, .int .i64 0, .int .i64 0, .int .i64 0, .slice none 0 0, .slice none 0 0, .slice none 0 0] 40)) := ((Up.refl _).alloc _).alloc _
  have ka : Bk ((w.alloc (.cells #[.int .i64 x.1.1, .slice A1 x.1.2.1.length c1, .slice A2 x.1.2.2.length c2, .int .i64 x.2.1.1, .int .i64 x.2.1.2.1, .int .i64 x.2.1.2.2.1, .slice A6 x.2.1.2.2.2.length c6, .int .i64 x.2.2.1.1, .int .i64 x.2.2.1.2.1, .int .i64 x.2.2.1.2.2.1, .slice A10 x.2.2.1.2.2.2.length c10, .slice A11 x.2.2.2.1.length c11, .slice A12 x.2.2.2.2.length c12] 40)).alloc (.cells #[.int .i64 0, .slice none 0 0, .slice none 0 0, .int .i64 0, .int .i64 0, .int .i64 0, .slice none 0 0, .int .i64 0, .int .i64 0, .int .i64 0, .slice none 0 0, .slice none 0 0, .slice none 0 0] 40)) w.heap.size 40 #[.int .i64 x.1.1, .slice A1 x.1.2.1.length c1, .slice A2 x.1.2.2.length c2, .int .i64 x.2.1.1, .int .i64 x.2.1.2.1, .int .i64 x.2.1.2.2.1, .slice A6 x.2.1.2.2.2.length c6, .int .i64 x.2.2.1.1, .int .i64 x.2.2.1.2.1, .int .i64 x.2.2.1.2.2.1, .slice A10 x.2.2.1.2.2.2.length c10, .slice A11 x.2.2.2.1.length c11, .slice A12 x.2.2.2.2.length c12] := (Bk.new _ _ _).alloc _
  have kr : Bk ((w.alloc (.cells #[.int .i64 x.1.1, .slice A1 x.1.2.1.length c1, .slice A2 x.1.2.2.length c2, .int .i64 x.2.1.1, .int .i64 x.2.1.2.1, .int .i64 x.2.1.2.2.1, .slice A6 x.2.1.2.2.2.length c6, .int .i64 x.2.2.1.1, .int .i64 x.2.2.1.2.1, .int .i64 x.2.2.1.2.2.1, .slice A10 x.2.2.1.2.2.2.length c10, .slice A11 x.2.2.2.1.length c11, .slice A12 x.2.2.2.2.length c12] 40)).alloc (.cells #[.int .i64 0, .slice none 0 0, .slice none 0 0, .int .i64 0, .int .i64 0, .int .i64 0, .slice none 0 0, .int .i64 0, .int .i64 0, .int .i64 0, .slice none 0 0, .slice none 0 0, .slice none 0 0] 40)) (w.heap.size + 1) 40 #[.int .i64 0, .slice none 0 0, .slice none 0 0, .int .i64 0, .int .i64 0, .int .i64 0, .slice none 0 0, .int .i64 0, .int .i64 0, .int .i64 0, .slice none 0 0, .slice none 0 0, .slice none 0 0] := by simpa using Bk.new (w.alloc (.cells #[.int .i64 x.1.1, .slice A1 x.1.2.1.length c1, .slice A2 x.1.2.2.length c2, .int .i64 x.2.1.1, .int .i64 x.2.1.2.1, .int .i64 x.2.1.2.2.1, .slice A6 x.2.1.2.2.2.length c6, .int .i64 x.2.2.1.1, .int .i64 x.2.2.1.2.1, .int .i64 x.2.2.1.2.2.1, .slice A10 x.2.2.1.2.2.2.length c10, .slice A11 x.2.2.2.1.length c11, .slice A12 x.2.2.2.2.length c12] 40)) 40 #[.int .i64 0, .slice none 0 0, .slice none 0 0, .int .i64 0, .int .i64 0, .int .i64 0, .slice none 0 0, .int .i64 0, .int .i64 0, .int .i64 0, .slice none 0 0, .slice none 0 0, .slice none 0 0]
  have zz : w.heap.size + 1 + 1 ≤ ((w.alloc (.cells #[.int .i64 x.1.1, .slice A1 x.1.2.1.length c1, .slice A2 x.1.2.2.length c2, .int .i64 x.2.1.1, .int .i64 x.2.1.2.1, .int .i64 x.2.1.2.2.1, .slice A6 x.2.1.2.2.2.length c6, .int .i64 x.2.2.1.1, .int .i64 x.2.2.1.2.1, .int .i64 x.2.2.1.2.2.1, .slice A10 x.2.2.1.2.2.2.length c10, .slice A11 x.2.2.2.1.length c11, .slice A12 x.2.2.2.2.length c12] 40)).alloc (.cells #[.int .i64 0, .slice none 0 0, .slice none 0 0, .int .i64 0, .int .i64 0, .int .i64 0, .slice none 0 0, .int .i64 0, .int .i64 0, .int .i64 0, .slice none 0 0, .slice none 0 0, .slice none 0 0] 40)).heap.size := by simp
  have hlen := hi.len_le
  go_enter Tryz.func8, Tryz.ntmps8
  go_wp2_with (refine wpList_load_bk [.int .i64 x.1.1, .slice A1 x.1.2.1.length c1, .slice A2 x.1.2.2.length c2, .int .i64 x.2.1.1, .int .i64 x.2.1.2.1, .int .i64 x.2.1.2.2.1, .slice A6 x.2.1.2.2.2.length c6, .int .i64 x.2.2.1.1, .int .i64 x.2.2.1.2.1, .int .i64 x.2.2.1.2.2.1, .slice A10 x.2.2.1.2.2.2.length c10, .slice A11 x.2.2.2.1.length c11, .slice A12 x.2.2.2.2.length c12] ka rfl Tryz.underlying40 rfl (by kernel_rfl) rfl ?_)
  refine (ci_CacheOk _ x _ ⟨_, rfl, mkCache (x := x) b0 (b1.up good_S uu) (b2.up good_Put uu) b3 b4 b5 (b6.up good_Seat uu) b7 b8 b9 (b10.up good_Seat uu) (b11.up good_Seat uu) (b12.up good_I uu)⟩ hn).mono ?_
  rintro e w1 ⟨rfl, u⟩
  replace zz := Nat.le_trans zz u.size
  replace uu := uu.trans u
  replace ka := ka.up u
  replace kr := kr.up u
  clear u
  cases hc : cacheOk x
  · have hno : noteOk x ids = false := by simp [noteOk, hc]
    obtain ⟨hv1, hv2⟩ := note_no hno
    go_wp2_with (refine wpList_store_bk [.int .i64 0, .slice none 0 0, .slice none 0 0, .int .i64 0, .int .i64 0, .int .i64 0, .slice none 0 0, .int .i64 0, .int .i64 0, .int .i64 0, .slice none 0 0, .slice none 0 0, .slice none 0 0] kr rfl rfl (by kernel_rfl) rfl (Nat.le_of_ble_eq_true rfl) ?_; intro W1 bt kr1; replace kr : Bk W1 (w.heap.size + 1) 40 #[.int .i64 0, .slice none 0 0, .slice none 0 0, .int .i64 0, .int .i64 0, .int .i64 0, .slice none 0 0, .int .i64 0, .int .i64 0, .int .i64 0, .slice none 0 0, .slice none 0 0, .slice none 0 0] := kr1; clear kr1; replace uu := uu.but bt (by omega); clear bt)
    try simp only [Exit.inBlock, Exit.then]
    refine bodyPost_ret (results_bk2 kr _ _ _ Tryz.results8 rfl rfl Tryz.underlying40 rfl (by kernel_rfl)) rfl ?_
    rw [hv1, hv2]
    exact zeroRC w _ 1 uu
  · go_wp2_with fail
    refine (c_allWithin ids A c 1 64 _ (hi.up good_I uu)).mono ?_
    rintro e w2 ⟨rfl, u⟩
    replace zz := Nat.le_trans zz u.size
    replace uu := uu.trans u
    replace ka := ka.up u
    replace kr := kr.up u
    clear u
    cases ha : allIn ids 1 64
    · have hno : noteOk x ids = false := by simp [noteOk, ha]
      obtain ⟨hv1, hv2⟩ := note_no hno
      go_wp2_with (refine wpList_store_bk [.int .i64 0, .slice none 0 0, .slice none 0 0, .int .i64 0, .int .i64 0, .int .i64 0, .slice none 0 0, .int .i64 0, .int .i64 0, .int .i64 0, .slice none 0 0, .slice none 0 0, .slice none 0 0] kr rfl rfl (by kernel_rfl) rfl (Nat.le_of_ble_eq_true rfl) ?_; intro W1 bt kr1; replace kr : Bk W1 (w.heap.size + 1) 40 #[.int .i64 0, .slice none 0 0, .slice none 0 0, .int .i64 0, .int .i64 0, .int .i64 0, .slice none 0 0, .int .i64 0, .int .i64 0, .int .i64 0, .slice none 0 0, .slice none 0 0, .slice none 0 0] := kr1; clear kr1; replace uu := uu.but bt (by omega); clear bt)
      try simp only [Exit.inBlock, Exit.then]
      refine bodyPost_ret (results_bk2 kr _ _ _ Tryz.results8 rfl rfl Tryz.underlying40 rfl (by kernel_rfl)) rfl ?_
      rw [hv1, hv2]
      exact zeroRC w _ 1 uu
    · by_cases h64 : ids.length ≤ 64
      · go_wp2_with (refine wpList_load_bk [.int .i64 x.1.1, .slice A1 x.1.2.1.length c1, .slice A2 x.1.2.2.length c2, .int .i64 x.2.1.1, .int .i64 x.2.1.2.1, .int .i64 x.2.1.2.2.1, .slice A6 x.2.1.2.2.2.length c6, .int .i64 x.2.2.1.1, .int .i64 x.2.2.1.2.1, .int .i64 x.2.2.1.2.2.1, .slice A10 x.2.2.1.2.2.2.length c10, .slice A11 x.2.2.2.1.length c11, .slice A12 x.2.2.2.2.length c12] ka rfl Tryz.underlying40 rfl (by kernel_rfl) rfl ?_)
        refine (c_copyCache _ x _ ⟨_, rfl, mkCache (x := x) b0 (b1.up good_S uu) (b2.up good_Put uu) b3 b4 b5 (b6.up good_Seat uu) b7 b8 b9 (b10.up good_Seat uu) (b11.up good_Seat uu) (b12.up good_I uu)⟩ hn).mono ?_
        rintro e w3 ⟨g, cs, bl, rfl, kg, so, nd, hg, hlg, u⟩
        have zu := u.size
        go_wp2_with fail
        refine (c_note g _ cs x bl _ _ kg so nd hg (Nat.le_refl _) zu hlg u ids A c (hi.up good_I uu) ns12 h64 (cache_ris hc)).mono ?_
        clear kg so nd hg hlg
        rintro e w4 ⟨rfl, u4, cs, bl, kg, so, nd⟩
        have zz0 := zz
        replace zz := Nat.le_trans zz u4.size
        replace uu := uu.trans u4
        replace ka := ka.up u4
        replace kr := kr.up u4
        clear u4
        have hok : noteOk x ids = true := by simp [noteOk, hc, ha, h64]
        obtain ⟨hv1, hv2⟩ := note_yes hok
        obtain ⟨D1, d1, _, D2, d2, _, D6, d6, _, D10, d10, _, D11, d11, _, D12, d12, _, rfl, _, _⟩ := openOCache so
        go_wp2_with (first | (refine wpList_load_bk [.int .i64 (noteC x (putsI x.2.2.2.2 ids)).1.1, .slice D1 (noteC x (putsI x.2.2.2.2 ids)).1.2.1.length d1, .slice D2 (noteC x (putsI x.2.2.2.2 ids)).1.2.2.length d2, .int .i64 (noteC x (putsI x.2.2.2.2 ids)).2.1.1, .int .i64 (noteC x (putsI x.2.2.2.2 ids)).2.1.2.1, .int .i64 (noteC x (putsI x.2.2.2.2 ids)).2.1.2.2.1, .slice D6 (noteC x (putsI x.2.2.2.2 ids)).2.1.2.2.2.length d6, .int .i64 (noteC x (putsI x.2.2.2.2 ids)).2.2.1.1, .int .i64 (noteC x (putsI x.2.2.2.2 ids)).2.2.1.2.1, .int .i64 (noteC x (putsI x.2.2.2.2 ids)).2.2.1.2.2.1, .slice D10 (noteC x (putsI x.2.2.2.2 ids)).2.2.1.2.2.2.length d10, .slice D11 (noteC x (putsI x.2.2.2.2 ids)).2.2.2.1.length d11, .slice D12 (noteC x (putsI x.2.2.2.2 ids)).2.2.2.2.length d12] kg rfl Tryz.underlying40 rfl (by kernel_rfl) rfl ?_) | (refine wpList_store_bk [.int .i64 (noteC x (putsI x.2.2.2.2 ids)).1.1, .slice D1 (noteC x (putsI x.2.2.2.2 ids)).1.2.1.length d1, .slice D2 (noteC x (putsI x.2.2.2.2 ids)).1.2.2.length d2, .int .i64 (noteC x (putsI x.2.2.2.2 ids)).2.1.1, .int .i64 (noteC x (putsI x.2.2.2.2 ids)).2.1.2.1, .int .i64 (noteC x (putsI x.2.2.2.2 ids)).2.1.2.2.1, .slice D6 (noteC x (putsI x.2.2.2.2 ids)).2.1.2.2.2.length d6, .int .i64 (noteC x (putsI x.2.2.2.2 ids)).2.2.1.1, .int .i64 (noteC x (putsI x.2.2.2.2 ids)).2.2.1.2.1, .int .i64 (noteC x (putsI x.2.2.2.2 ids)).2.2.1.2.2.1, .slice D10 (noteC x (putsI x.2.2.2.2 ids)).2.2.1.2.2.2.length d10, .slice D11 (noteC x (putsI x.2.2.2.2 ids)).2.2.2.1.length d11, .slice D12 (noteC x (putsI x.2.2.2.2 ids)).2.2.2.2.length d12] kr rfl rfl (by kernel_rfl) rfl (Nat.le_of_ble_eq_true rfl) ?_; intro W1 bt kr1; replace kr : Bk W1 (w.heap.size + 1) 40 #[.int .i64 (noteC x (putsI x.2.2.2.2 ids)).1.1, .slice D1 (noteC x (putsI x.2.2.2.2 ids)).1.2.1.length d1, .slice D2 (noteC x (putsI x.2.2.2.2 ids)).1.2.2.length d2, .int .i64 (noteC x (putsI x.2.2.2.2 ids)).2.1.1, .int .i64 (noteC x (putsI x.2.2.2.2 ids)).2.1.2.1, .int .i64 (noteC x (putsI x.2.2.2.2 ids)).2.1.2.2.1, .slice D6 (noteC x (putsI x.2.2.2.2 ids)).2.1.2.2.2.length d6, .int .i64 (noteC x (putsI x.2.2.2.2 ids)).2.2.1.1, .int .i64 (noteC x (putsI x.2.2.2.2 ids)).2.2.1.2.1, .int .i64 (noteC x (putsI x.2.2.2.2 ids)).2.2.1.2.2.1, .slice D10 (noteC x (putsI x.2.2.2.2 ids)).2.2.1.2.2.2.length d10, .slice D11 (noteC x (putsI x.2.2.2.2 ids)).2.2.2.1.length d11, .slice D12 (noteC x (putsI x.2.2.2.2 ids)).2.2.2.2.length d12] := kr1; clear kr1; replace uu := uu.but bt (by omega); replace so := own_but good_Cache so bt (by omega); clear bt))
        refine bodyPost_ret (results_bk2 kr _ _ _ Tryz.results8 rfl rfl Tryz.underlying40 rfl (by kernel_rfl)) rfl ?_
        rw [hv1, hv2]
        exact ⟨_, _, rfl, good_Cache.own_wide so (by omega) (Nat.le_refl _), nd, uu⟩
      · have h65 : (64 : Int) < (ids.length : Int) := by omega
        have h66 : decide ((ids.length : Int) > 64) = true := decide_eq_true h65
        have hno : noteOk x ids = false := by simp [noteOk, h64]
        obtain ⟨hv1, hv2⟩ := note_no hno
        go_wp2_with (refine wpList_store_bk [.int .i64 0, .slice none 0 0, .slice none 0 0, .int .i64 0, .int .i64 0, .int .i64 0, .slice none 0 0, .int .i64 0, .int .i64 0, .int .i64 0, .slice none 0 0, .slice none 0 0, .slice none 0 0] kr rfl rfl (by kernel_rfl) rfl (Nat.le_of_ble_eq_true rfl) ?_; intro W1 bt kr1; replace kr : Bk W1 (w.heap.size + 1) 40 #[.int .i64 0, .slice none 0 0, .slice none 0 0, .int .i64 0, .int .i64 0, .int .i64 0, .slice none 0 0, .int .i64 0, .int .i64 0, .int .i64 0, .slice none 0 0, .slice none 0 0, .slice none 0 0] := kr1; clear kr1; replace uu := uu.but bt (by omega); clear bt)
        try simp only [Exit.inBlock, Exit.then]
        refine bodyPost_ret (results_bk2 kr _ _ _ Tryz.results8 rfl rfl Tryz.underlying40 rfl (by kernel_rfl)) rfl ?_
        rw [hv1, hv2]
        exact zeroRC w _ 1 uu

set_option maxRecDepth 100000 in
set_option maxHeartbeats 16000000 in
theorem cs0_NoteDirty (v : Value) (x : TCache) (ids : List Int) (A : Option Addr) (c : Nat) (w : World) (h : AV shCache w v x) (hn : shCache.sz x ≤ 1048576) (hi : SRW shI w A c ids) : Calls Tryz.prog 5 #[v, .slice A ids.length c] w (ToR shCache (noteV x ids) (noteK x ids) w) := by
  obtain ⟨cs, rfl, h⟩ := h
  obtain ⟨A1, c1, A2, c2, A6, c6, A10, c10, A11, c11, A12, c12, rfl, b0, b1, b2, b3, b4, b5, b6, b7, b8, b9, b10, b11, b12⟩ := openCache h
  clear h
  obtain ⟨ns1, ns6, ns10, ns11, ns12⟩ := cache_sz hn
  have uu : Up w ((w.alloc (.cells #[.int .i64 x.1.1, .slice A1 x.1.2.1.length c1, .slice A2 x.1.2.2.length c2, .int .i64 x.2.1.1, .int .i64 x.2.1.2.1, .int .i64 x.2.1.2.2.1, .slice A6 x.2.1.2.2.2.length c6, .int .i64 x.2.2.1.1, .int .i64 x.2.2.1.2.1, .int .i64 x.2.2.1.2.2.1, .slice A10 x.2.2.1.2.2.2.length c10, .slice A11 x.2.2.2.1.length c11, .slice A12 x.2.2.2.2.length c12] 40)).alloc (.cells #[.int .i64 0, .slice none 0 0, .slice none 0 0, .int .i64 0, .int .i64 0, .int .i64 0, .slice none 0 0, .int .i64 0, .int .i64 0, .int .i64 0, .slice none 0 0, .slice none 0 0, .slice none 0 0] 40)) := ((Up.refl _).alloc _).alloc _
  have ka : Bk ((w.alloc (.cells #[.int .i64 x.1.1, .slice A1 x.1.2.1.length c1, .slice A2 x.1.2.2.length c2, .int .i64 x.2.1.1, .int .i64 x.2.1.2.1, .int .i64 x.2.1.2.2.1, .slice A6 x.2.1.2.2.2.length c6, .int .i64 x.2.2.1.1, .int .i64 x.2.2.1.2.1, .int .i64 x.2.2.1.2.2.1, .slice A10 x.2.2.1.2.2.2.length c10, .slice A11 x.2.2.2.1.length c11, .slice A12 x.2.2.2.2.length c12] 40)).alloc (.cells #[.int .i64 0, .slice none 0 0, .slice none 0 0, .int .i64 0, .int .i64 0, .int .i64 0, .slice none 0 0, .int .i64 0, .int .i64 0, .int .i64 0, .slice none 0 0, .slice none 0 0, .slice none 0 0] 40)) w.heap.size 40 #[.int .i64 x.1.1, .slice A1 x.1.2.1.length c1, .slice A2 x.1.2.2.length c2, .int .i64 x.2.1.1, .int .i64 x.2.1.2.1, .int .i64 x.2.1.2.2.1, .slice A6 x.2.1.2.2.2.length c6, .int .i64 x.2.2.1.1, .int .i64 x.2.2.1.2.1, .int .i64 x.2.2.1.2.2.1, .slice A10 x.2.2.1.2.2.2.length c10, .slice A11 x.2.2.2.1.length c11, .slice A12 x.2.2.2.2.length c12] := (Bk.new _ _ _).alloc _
  have kr : Bk ((w.alloc (.cells #[.int .i64 x.1.1, .slice A1 x.1.2.1.length c1, .slice A2 x.1.2.2.length c2, .int .i64 x.2.1.1, .int .i64 x.2.1.2.1, .int .i64 x.2.1.2.2.1, .slice A6 x.2.1.2.2.2.length c6, .int .i64 x.2.2.1.1, .int .i64 x.2.2.1.2.1, .int .i64 x.2.2.1.2.2.1, .slice A10 x.2.2.1.2.2.2.length c10, .slice A11 x.2.2.2.1.length c11, .slice A12 x.2.2.2.2.length c12] 40)).alloc (.cells #[.int .i64 0, .slice none 0 0, .slice none 0 0, .int .i64 0, .int .i64 0, .int .i64 0, .slice none 0 0, .int .i64 0, .int .i64 0, .int .i64 0, .slice none 0 0, .slice none 0 0, .slice none 0 0] 40)) (w.heap.size + 1) 40 #[.int .i64 0, .slice none 0 0, .slice none 0 0, .int .i64 0, .int .i64 0, .int .i64 0, .slice none 0 0, .int .i64 0, .int .i64 0, .int .i64 0, .slice none 0 0, .slice none 0 0, .slice none 0 0] := by simpa using Bk.new (w.alloc (.cells #[.int .i64 x.1.1, .slice A1 x.1.2.1.length c1, .slice A2 x.1.2.2.length c2, .int .i64 x.2.1.1, .int .i64 x.2.1.2.1, .int .i64 x.2.1.2.2.1, .slice A6 x.2.1.2.2.2.length c6, .int .i64 x.2.2.1.1, .int .i64 x.2.2.1.2.1, .int .i64 x.2.2.1.2.2.1, .slice A10 x.2.2.1.2.2.2.length c10, .slice A11 x.2.2.2.1.length c11, .slice A12 x.2.2.2.2.length c12] 40)) 40 #[.int .i64 0, .slice none 0 0, .slice none 0 0, .int .i64 0, .int .i64 0, .int .i64 0, .slice none 0 0, .int .i64 0, .int .i64 0, .int .i64 0, .slice none 0 0, .slice none 0 0, .slice none 0 0]
  have zz : w.heap.size + 1 + 1 ≤ ((w.alloc (.cells #[.int .i64 x.1.1, .slice A1 x.1.2.1.length c1, .slice A2 x.1.2.2.length c2, .int .i64 x.2.1.1, .int .i64 x.2.1.2.1, .int .i64 x.2.1.2.2.1, .slice A6 x.2.1.2.2.2.length c6, .int .i64 x.2.2.1.1, .int .i64 x.2.2.1.2.1, .int .i64 x.2.2.1.2.2.1, .slice A10 x.2.2.1.2.2.2.length c10, .slice A11 x.2.2.2.1.length c11, .slice A12 x.2.2.2.2.length c12] 40)).alloc (.cells #[.int .i64 0, .slice none 0 0, .slice none 0 0, .int .i64 0, .int .i64 0, .int .i64 0, .slice none 0 0, .int .i64 0, .int .i64 0, .int .i64 0, .slice none 0 0, .slice none 0 0, .slice none 0 0] 40)).heap.size := by simp
  have hlen := hi.len_le
  go_enter Tryz.func5, Tryz.ntmps5
  go_wp2_with (refine wpList_load_bk [.int .i64 x.1.1, .slice A1 x.1.2.1.length c1, .slice A2 x.1.2.2.length c2, .int .i64 x.2.1.1, .int .i64 x.2.1.2.1, .int .i64 x.2.1.2.2.1, .slice A6 x.2.1.2.2.2.length c6, .int .i64 x.2.2.1.1, .int .i64 x.2.2.1.2.1, .int .i64 x.2.2.1.2.2.1, .slice A10 x.2.2.1.2.2.2.length c10, .slice A11 x.2.2.2.1.length c11, .slice A12 x.2.2.2.2.length c12] ka rfl Tryz.underlying40 rfl (by kernel_rfl) rfl ?_)
  refine (cs_CacheOk _ x _ ⟨_, rfl, mkCache (x := x) b0 (b1.up good_S uu) (b2.up good_Put uu) b3 b4 b5 (b6.up good_Seat uu) b7 b8 b9 (b10.up good_Seat uu) (b11.up good_Seat uu) (b12.up good_I uu)⟩ hn).mono ?_
  rintro e w1 ⟨rfl, u⟩
  replace zz := Nat.le_trans zz u.size
  replace uu := uu.trans u
  replace ka := ka.up u
  replace kr := kr.up u
  clear u
  cases hc : cacheOk x
  · have hno : noteOk x ids = false := by simp [noteOk, hc]
    obtain ⟨hv1, hv2⟩ := note_no hno
    go_wp2_with (refine wpList_store_bk [.int .i64 0, .slice none 0 0, .slice none 0 0, .int .i64 0, .int .i64 0, .int .i64 0, .slice none 0 0, .int .i64 0, .int .i64 0, .int .i64 0, .slice none 0 0, .slice none 0 0, .slice none 0 0] kr rfl rfl (by kernel_rfl) rfl (Nat.le_of_ble_eq_true rfl) ?_; intro W1 bt kr1; replace kr : Bk W1 (w.heap.size + 1) 40 #[.int .i64 0, .slice none 0 0, .slice none 0 0, .int .i64 0, .int .i64 0, .int .i64 0, .slice none 0 0, .int .i64 0, .int .i64 0, .int .i64 0, .slice none 0 0, .slice none 0 0, .slice none 0 0] := kr1; clear kr1; replace uu := uu.but bt (by omega); clear bt)
    try simp only [Exit.inBlock, Exit.then]
    refine bodyPost_ret (results_bk2 kr _ _ _ Tryz.results5 rfl rfl Tryz.underlying40 rfl (by kernel_rfl)) rfl ?_
    rw [hv1, hv2]
    exact zeroRC w _ 1 uu
  · by_cases h64 : ids.length ≤ 64
    · go_wp2_with fail
      go_loopw [6] (fun i wr => ∃ k : Nat, k ≤ ids.length ∧ i = .int .i64 k ∧ Hid (∀ j (hj : j < ids.length), j < k → inB ids[j] 1 64 = true) ∧ Up w wr ∧ Bk wr w.heap.size 40 #[.int .i64 x.1.1, .slice A1 x.1.2.1.length c1, .slice A2 x.1.2.2.length c2, .int .i64 x.2.1.1, .int .i64 x.2.1.2.1, .int .i64 x.2.1.2.2.1, .slice A6 x.2.1.2.2.2.length c6, .int .i64 x.2.2.1.1, .int .i64 x.2.2.1.2.1, .int .i64 x.2.2.1.2.2.1, .slice A10 x.2.2.1.2.2.2.length c10, .slice A11 x.2.2.2.1.length c11, .slice A12 x.2.2.2.2.length c12] ∧ Bk wr (w.heap.size + 1) 40 #[.int .i64 0, .slice none 0 0, .slice none 0 0, .int .i64 0, .int .i64 0, .int .i64 0, .slice none 0 0, .int .i64 0, .int .i64 0, .int .i64 0, .slice none 0 0, .slice none 0 0, .slice none 0 0] ∧ w.heap.size + 1 + 1 ≤ wr.heap.size) (fun i _ => ids.length - (intOf i).toNat)
      case atStart => exact ⟨0, Nat.zero_le _, rfl, Lib.hid (fun j hj hk => absurd hk (by omega)), uu, ka, kr, zz⟩
      case round =>
        clear uu ka kr zz
        obtain ⟨k, hk, rfl, HA, uu, ka, kr, zz⟩ := hrel
        by_cases hlt : k < ids.length
        · obtain ⟨g0, off0, rfl, _, _, hce, _, _⟩ := (hi.up good_I uu).at_I hlt
          cases hb : inB ids[k] 1 64
          · have hna : allIn ids 1 64 = false := by
              unfold allIn
              have hm := List.getElem_mem hlt
              have : ids.any (notIn 1 64) = true := List.any_eq_true.2 ⟨ids[k], hm, by simp [notIn, hb]⟩
              simp [this]
            go_upto_region 7 with (go_at_call 19; refine (in_any _ _ _ _).mono ?_; rintro e w2 ⟨rfl, rfl⟩; rw [hb])
            have hno : noteOk x ids = false := by simp [noteOk, hna]
            obtain ⟨hv1, hv2⟩ := note_no hno
            go_wp2_with (refine wpList_store_bk [.int .i64 0, .slice none 0 0, .slice none 0 0, .int .i64 0, .int .i64 0, .int .i64 0, .slice none 0 0, .int .i64 0, .int .i64 0, .int .i64 0, .slice none 0 0, .slice none 0 0, .slice none 0 0] kr rfl rfl (by kernel_rfl) rfl (Nat.le_of_ble_eq_true rfl) ?_; intro W1 bt kr1; replace kr : Bk W1 (w.heap.size + 1) 40 #[.int .i64 0, .slice none 0 0, .slice none 0 0, .int .i64 0, .int .i64 0, .int .i64 0, .slice none 0 0, .int .i64 0, .int .i64 0, .int .i64 0, .slice none 0 0, .slice none 0 0, .slice none 0 0] := kr1; clear kr1; replace uu := uu.but bt (by omega); clear bt)
            try simp only [Exit.inBlock, Exit.then]
            refine bodyPost_ret (results_bk2 kr _ _ _ Tryz.results5 rfl rfl Tryz.underlying40 rfl (by kernel_rfl)) rfl ?_
            rw [hv1, hv2]
            exact zeroRC w _ 1 uu
          · have HN : Hid (∀ j (hj : j < ids.length), j < k + 1 → inB ids[j] 1 64 = true) := Lib.hid (fun j hj h => by
                by_cases e : j = k
                · subst e; exact hb
                · exact HA.out j hj (by omega))
            go_wp2_with (go_at_call 19; refine (in_any _ _ _ _).mono ?_; rintro e w2 ⟨rfl, rfl⟩; rw [hb])
            go_roundw
            case rel => exact ⟨k + 1, by omega, by go_num, HN, uu, ka, kr, zz⟩
            case measure => simp [intOf]; omega
        · have ha : allIn ids 1 64 = true := by
            unfold allIn
            have : ids.any (notIn 1 64) = false := List.any_eq_false.2 fun y hy => by
              obtain ⟨j, hj, rfl⟩ := List.getElem_of_mem hy
              simp [notIn, HA.out j hj (by omega)]
            simp [this]
          go_wp2_with (refine wpList_load_bk [.int .i64 x.1.1, .slice A1 x.1.2.1.length c1, .slice A2 x.1.2.2.length c2, .int .i64 x.2.1.1, .int .i64 x.2.1.2.1, .int .i64 x.2.1.2.2.1, .slice A6 x.2.1.2.2.2.length c6, .int .i64 x.2.2.1.1, .int .i64 x.2.2.1.2.1, .int .i64 x.2.2.1.2.2.1, .slice A10 x.2.2.1.2.2.2.length c10, .slice A11 x.2.2.2.1.length c11, .slice A12 x.2.2.2.2.length c12] ka rfl Tryz.underlying40 rfl (by kernel_rfl) rfl ?_)
          refine (c_l18Own _ x _ ⟨_, rfl, mkCache (x := x) b0 (b1.up good_S uu) (b2.up good_Put uu) b3 b4 b5 (b6.up good_Seat uu) b7 b8 b9 (b10.up good_Seat uu) (b11.up good_Seat uu) (b12.up good_I uu)⟩ hn).mono ?_
          rintro e w3 ⟨cs, bl, rfl, so, nd, u⟩
          obtain ⟨D1, d1, _, D2, d2, _, D6, d6, _, D10, d10, _, D11, d11, _, D12, d12, _, rfl, _, _⟩ := openOCache so
          have hbi := fun b hb => good_Cache.own_in so b hb
          have zu := u.size
          have kz := Bk.new w3 40 #[.int .i64 0, .slice none 0 0, .slice none 0 0, .int .i64 0, .int .i64 0, .int .i64 0, .slice none 0 0, .int .i64 0, .int .i64 0, .int .i64 0, .slice none 0 0, .slice none 0 0, .slice none 0 0]
          have uz := (Up.refl w3).alloc (.cells #[.int .i64 0, .slice none 0 0, .slice none 0 0, .int .i64 0, .int .i64 0, .int .i64 0, .slice none 0 0, .int .i64 0, .int .i64 0, .int .i64 0, .slice none 0 0, .slice none 0 0, .slice none 0 0] 40)
          replace so := own_up good_Cache so uz
          have u0 := u.trans uz
          clear uz
          go_wp2_with (refine wpList_store_bk [.int .i64 x.1.1, .slice D1 x.1.2.1.length d1, .slice D2 x.1.2.2.length d2, .int .i64 x.2.1.1, .int .i64 x.2.1.2.1, .int .i64 x.2.1.2.2.1, .slice D6 x.2.1.2.2.2.length d6, .int .i64 x.2.2.1.1, .int .i64 x.2.2.1.2.1, .int .i64 x.2.2.1.2.2.1, .slice D10 x.2.2.1.2.2.2.length d10, .slice D11 x.2.2.2.1.length d11, .slice D12 x.2.2.2.2.length d12] kz rfl rfl (by kernel_rfl) rfl (Nat.le_of_ble_eq_true rfl) ?_; intro W5 bt kg; replace so := own_butN good_Cache so bt (fun hb => Nat.lt_irrefl _ (hbi _ hb).2); replace u0 := u0.but bt zu)
          have zt := bt.size
          refine (c_l18Note w3.heap.size _ _ x bl _ _ kg so nd (fun hb => Nat.lt_irrefl _ (hbi _ hb).2) (Nat.le_refl _) (by simp at zt; omega) zu u0 ids A c (hi.up good_I uu) ns12 h64).mono ?_
          clear kg so nd kz bt hbi
          rintro e w6 ⟨rfl, u4, cs, bl, kg, so, nd⟩
          clear u u0
          have zz0 := zz
          replace zz := Nat.le_trans zz u4.size
          replace uu := uu.trans u4
          replace ka := ka.up u4
          replace kr := kr.up u4
          clear u4
          have hok : noteOk x ids = true := by simp [noteOk, hc, ha, h64]
          obtain ⟨hv1, hv2⟩ := note_yes hok
          obtain ⟨D1, d1, _, D2, d2, _, D6, d6, _, D10, d10, _, D11, d11, _, D12, d12, _, rfl, _, _⟩ := openOCache so
          go_wp2_with (first | (refine wpList_load_bk [.int .i64 (noteC x (putsI x.2.2.2.2 ids)).1.1, .slice D1 (noteC x (putsI x.2.2.2.2 ids)).1.2.1.length d1, .slice D2 (noteC x (putsI x.2.2.2.2 ids)).1.2.2.length d2, .int .i64 (noteC x (putsI x.2.2.2.2 ids)).2.1.1, .int .i64 (noteC x (putsI x.2.2.2.2 ids)).2.1.2.1, .int .i64 (noteC x (putsI x.2.2.2.2 ids)).2.1.2.2.1, .slice D6 (noteC x (putsI x.2.2.2.2 ids)).2.1.2.2.2.length d6, .int .i64 (noteC x (putsI x.2.2.2.2 ids)).2.2.1.1, .int .i64 (noteC x (putsI x.2.2.2.2 ids)).2.2.1.2.1, .int .i64 (noteC x (putsI x.2.2.2.2 ids)).2.2.1.2.2.1, .slice D10 (noteC x (putsI x.2.2.2.2 ids)).2.2.1.2.2.2.length d10, .slice D11 (noteC x (putsI x.2.2.2.2 ids)).2.2.2.1.length d11, .slice D12 (noteC x (putsI x.2.2.2.2 ids)).2.2.2.2.length d12] kg rfl Tryz.underlying40 rfl (by kernel_rfl) rfl ?_) | (refine wpList_store_bk [.int .i64 (noteC x (putsI x.2.2.2.2 ids)).1.1, .slice D1 (noteC x (putsI x.2.2.2.2 ids)).1.2.1.length d1, .slice D2 (noteC x (putsI x.2.2.2.2 ids)).1.2.2.length d2, .int .i64 (noteC x (putsI x.2.2.2.2 ids)).2.1.1, .int .i64 (noteC x (putsI x.2.2.2.2 ids)).2.1.2.1, .int .i64 (noteC x (putsI x.2.2.2.2 ids)).2.1.2.2.1, .slice D6 (noteC x (putsI x.2.2.2.2 ids)).2.1.2.2.2.length d6, .int .i64 (noteC x (putsI x.2.2.2.2 ids)).2.2.1.1, .int .i64 (noteC x (putsI x.2.2.2.2 ids)).2.2.1.2.1, .int .i64 (noteC x (putsI x.2.2.2.2 ids)).2.2.1.2.2.1, .slice D10 (noteC x (putsI x.2.2.2.2 ids)).2.2.1.2.2.2.length d10, .slice D11 (noteC x (putsI x.2.2.2.2 ids)).2.2.2.1.length d11, .slice D12 (noteC x (putsI x.2.2.2.2 ids)).2.2.2.2.length d12] kr rfl rfl (by kernel_rfl) rfl (Nat.le_of_ble_eq_true rfl) ?_; intro W1 bt kr1; replace kr : Bk W1 (w.heap.size + 1) 40 #[.int .i64 (noteC x (putsI x.2.2.2.2 ids)).1.1, .slice D1 (noteC x (putsI x.2.2.2.2 ids)).1.2.1.length d1, .slice D2 (noteC x (putsI x.2.2.2.2 ids)).1.2.2.length d2, .int .i64 (noteC x (putsI x.2.2.2.2 ids)).2.1.1, .int .i64 (noteC x (putsI x.2.2.2.2 ids)).2.1.2.1, .int .i64 (noteC x (putsI x.2.2.2.2 ids)).2.1.2.2.1, .slice D6 (noteC x (putsI x.2.2.2.2 ids)).2.1.2.2.2.length d6, .int .i64 (noteC x (putsI x.2.2.2.2 ids)).2.2.1.1, .int .i64 (noteC x (putsI x.2.2.2.2 ids)).2.2.1.2.1, .int .i64 (noteC x (putsI x.2.2.2.2 ids)).2.2.1.2.2.1, .slice D10 (noteC x (putsI x.2.2.2.2 ids)).2.2.1.2.2.2.length d10, .slice D11 (noteC x (putsI x.2.2.2.2 ids)).2.2.2.1.length d11, .slice D12 (noteC x (putsI x.2.2.2.2 ids)).2.2.2.2.length d12] := kr1; clear kr1; replace uu := uu.but bt (by omega); replace so := own_but good_Cache so bt (by omega); clear bt))
          refine bodyPost_ret (results_bk2 kr _ _ _ Tryz.results5 rfl rfl Tryz.underlying40 rfl (by kernel_rfl)) rfl ?_
          rw [hv1, hv2]
          exact ⟨_, _, rfl, good_Cache.own_wide so (by omega) (Nat.le_refl _), nd, uu⟩
    · have h65 : (64 : Int) < (ids.length : Int) := by omega
      have h66 : decide ((ids.length : Int) > 64) = true := decide_eq_true h65
      have hno : noteOk x ids = false := by simp [noteOk, h64]
      obtain ⟨hv1, hv2⟩ := note_no hno
      go_wp2_with (refine wpList_store_bk [.int .i64 0, .slice none 0 0, .slice none 0 0, .int .i64 0, .int .i64 0, .int .i64 0, .slice none 0 0, .int .i64 0, .int .i64 0, .int .i64 0, .slice none 0 0, .slice none 0 0, .slice none 0 0] kr rfl rfl (by kernel_rfl) rfl (Nat.le_of_ble_eq_true rfl) ?_; intro W1 bt kr1; replace kr : Bk W1 (w.heap.size + 1) 40 #[.int .i64 0, .slice none 0 0, .slice none 0 0, .int .i64 0, .int .i64 0, .int .i64 0, .slice none 0 0, .int .i64 0, .int .i64 0, .int .i64 0, .slice none 0 0, .slice none 0 0, .slice none 0 0] := kr1; clear kr1; replace uu := uu.but bt (by omega); clear bt)
      try simp only [Exit.inBlock, Exit.then]
      refine bodyPost_ret (results_bk2 kr _ _ _ Tryz.results5 rfl rfl Tryz.underlying40 rfl (by kernel_rfl)) rfl ?_
      rw [hv1, hv2]
      exact zeroRC w _ 1 uu
end Go.Proofs.YtfehlcbaalbajaaGreat
