/-
  NewCache: the program's.
-/
import Derived.Test.YtlifhbfomgbiaaaGreatDoorMSa
import Derived.Test.YtlifhbfomgbiaaaGreatDoorMM
namespace Go.Proofs.YtlifhbfomgbiaaaGreatDoor
open Go.RowKit
set_option linter.unusedVariables false
set_option linter.unusedSimpArgs false
set_option maxHeartbeats 1000000 in
theorem c_NewBtreeBk (w : World) : Calls Tryz.prog 47 #[] w (fun e w' => ∃ h, e = .returned (.agg #[.int .i64 1, .slice (some ⟨h, 0, none⟩) 1 1]) ∧ w.heap.size ≤ h ∧ Bk w' h 93 #[.int .i64 1, .bool true, .slice none 0 0, .slice none 0 0, .slice none 0 0] ∧ Up w w') := by
  go_enter Tryz.func47, Tryz.ntmps47
  go_wp2_with fail
  refine bodyPost_ret (v := .agg #[.int .i64 1, .slice (some ⟨w.heap.size + 1, 0, none⟩) 1 1]) (by simp [results, Tryz.results47, go_sem]) rfl ?_
  refine ⟨w.heap.size + 1, rfl, by omega, ?_, ((Up.refl _).alloc _).alloc _⟩
  simpa using Bk.new (w.alloc (.cells #[.int .i64 1, .slice (some ⟨w.heap.size + 1, 0, none⟩) 1 1] 39)) 93 #[.int .i64 1, .bool true, .slice none 0 0, .slice none 0 0, .slice none 0 0]

theorem fieldBtree (a v : Value) (W : World) : (Instr.field 39 (.agg #[a, v]) 1).run Tryz.prog W = .ok v W := by
  have h1 : (asAgg (Value.agg #[a, v])).run Tryz.prog W = .ok #[a, v] W := rfl
  simp [Instr.field, run_underlying Tryz.underlying39, h1]
  unfold part
  have h2 : (isAgg 37).run Tryz.prog W = .ok false W := by simp [isAgg, run_underlying Tryz.underlying37]
  simp [h2]
set_option maxRecDepth 100000 in
set_option maxHeartbeats 16000000 in
theorem ci_NewCache (a : Int) (w : World) (ha : I64 a) (htab : Tab w) (hm : MaxL w) : Calls Tryz.prog 12 #[.int .i64 a] w (ToR shCache (nCache a) (nCode a) w) := by
  have kr := Bk.new w 31 #[.int .i64 0, .slice none 0 0, .slice none 0 0, .int .i64 0, .int .i64 0, .int .i64 0, .slice none 0 0, .int .i64 0, .int .i64 0, .int .i64 0, .slice none 0 0, .slice none 0 0, .slice none 0 0]
  have uu : Up w (w.alloc (.cells #[.int .i64 0, .slice none 0 0, .slice none 0 0, .int .i64 0, .int .i64 0, .int .i64 0, .slice none 0 0, .int .i64 0, .int .i64 0, .int .i64 0, .slice none 0 0, .slice none 0 0, .slice none 0 0] 31)) := (Up.refl w).alloc _
  cases q : inB a 2 398
  · have hv1 : nCache a = nZero := by unfold nCache; rw [q]; rfl
    have hv2 : nCode a = 2 := by unfold nCode; rw [q]; rfl
    go_enter Tryz.func12, Tryz.ntmps12
    go_wp2_with (first | (go_at_call 43; refine (within_any _ _ _ _).mono ?_; rintro e w' ⟨rfl, rfl⟩; rw [q]) | (refine wpList_store_bk [.int .i64 0, .slice none 0 0, .slice none 0 0, .int .i64 0, .int .i64 0, .int .i64 0, .slice none 0 0, .int .i64 0, .int .i64 0, .int .i64 0, .slice none 0 0, .slice none 0 0, .slice none 0 0] kr rfl rfl (by kernel_rfl) rfl (Nat.le_of_ble_eq_true rfl) ?_; intro W1 bt kr1; replace kr : Bk W1 w.heap.size 31 #[.int .i64 0, .slice none 0 0, .slice none 0 0, .int .i64 0, .int .i64 0, .int .i64 0, .slice none 0 0, .int .i64 0, .int .i64 0, .int .i64 0, .slice none 0 0, .slice none 0 0, .slice none 0 0] := kr1; clear kr1; replace uu := uu.but bt (Nat.le_refl _); clear bt))
    refine bodyPost_ret (results_bk2 kr _ _ _ Tryz.results12 rfl rfl Tryz.underlying31 rfl (by kernel_rfl)) rfl ?_
    rw [hv1, hv2]
    exact ⟨_, [], rfl, own_nZero _ _ _, by simp, uu⟩
  · have hb := inB_t.1 q
    obtain ⟨n, hn⟩ : ∃ n : Nat, a = (n : Int) := ⟨a.toNat, by omega⟩
    subst hn
    have hv1 : nCache (n : Int) = ((1700, nSect n, []), nTop, (0, 0, 0, []), [], []) := by unfold nCache; rw [if_pos q, Int.toNat_natCast]
    have hv2 : nCode (n : Int) = 0 := by unfold nCode; rw [if_pos q]
    have hw2 : wrap64 ((n : Int) + 2) = (n : Int) + 2 := by unfold wrap64; omega
    have hdc : newDiskC ((n : Int) + 2) 1700 = 0 := by unfold newDiskC; rw [if_pos ⟨inB_t.2 (by omega), by decide⟩]
    have hnd : newDisk ((n : Int) + 2) 1700 = (1700, List.replicate (n + 2) (zs 1700), []) := by
      unfold newDisk
      rw [if_pos hdc]
      have e1 : ((n : Int) + 2).toNat = n + 2 := by omega
      rw [e1]; rfl
    have cd := fun W => ci_NewDisk ((n : Int) + 2) 1700 W ⟨by omega, by omega⟩ ⟨by decide, by decide⟩
    rw [hdc, hnd] at cd
    have CD := Lib.hid cd
    clear cd hnd hdc
    go_enter Tryz.func12, Tryz.ntmps12
    go_wp2_with (go_at_call 43; refine (within_any _ _ _ _).mono ?_; rintro e w' ⟨rfl, rfl⟩; rw [q])
    refine (CD.out _).mono ?_
    rintro e w1 ⟨cs, bl, rfl, so, nd, u1⟩
    have e0 : (w.alloc (.cells #[.int .i64 0, .slice none 0 0, .slice none 0 0, .int .i64 0, .int .i64 0, .int .i64 0, .slice none 0 0, .int .i64 0, .int .i64 0, .int .i64 0, .slice none 0 0, .slice none 0 0, .slice none 0 0] 31)).heap.size = w.heap.size + 1 := by simp
    rw [e0] at so
    clear e0
    obtain ⟨D1, d1, bl1, D2, d2, bl2, rfl, rfl, i0, s1, s2⟩ := openODisk so
    dsimp only at s1 s2
    have uu1 := uu.trans u1
    have kr1 := kr.up u1
    have HL : Hid ((List.replicate (n + 2) (zs 1700)).length = n + 2) := List.length_replicate
    rw [HL.out, List.length_nil]
    have hm0 : (0 : Int) ≤ 1 := by decide
    have hm1 : (1 : Int) < ((n + 2 : Nat) : Int) := by omega
    have hm3 : (1 : Int) < (n : Int) + 2 := by omega
    have hm4 : (2 : Int) < (n : Int) + 2 := by omega
    have hm5 : (0 : Int) ≤ 2 := by decide
    have hm2 : (2 : Int) < ((n + 2 : Nat) : Int) := by omega
    go_wp2_with fail
    have ko := ((Bk.new w1 25 #[.int .i64 1700, .slice D1 (n + 2) d1, .slice D2 0 d2]).alloc (.cells #[.int .i64 1, .int .i64 2] 87)).alloc (.cells #[.int .i64 1, .int .i64 1, .int .i64 0, .slice (some ⟨w1.heap.size + 1, 0, none⟩) 1 1] 28)
    have ks := (Bk.new (w1.alloc (.cells #[.int .i64 1700, .slice D1 (n + 2) d1, .slice D2 0 d2] 25)) 87 #[.int .i64 1, .int .i64 2]).alloc (.cells #[.int .i64 1, .int .i64 1, .int .i64 0, .slice (some ⟨w1.heap.size + 1, 0, none⟩) 1 1] 28)
    have kt := Bk.new ((w1.alloc (.cells #[.int .i64 1700, .slice D1 (n + 2) d1, .slice D2 0 d2] 25)).alloc (.cells #[.int .i64 1, .int .i64 2] 87)) 28 #[.int .i64 1, .int .i64 1, .int .i64 0, .slice (some ⟨w1.heap.size + 1, 0, none⟩) 1 1]
    have e1 : (w1.alloc (.cells #[.int .i64 1700, .slice D1 (n + 2) d1, .slice D2 0 d2] 25)).heap.size = w1.heap.size + 1 := by simp
    have e2 : ((w1.alloc (.cells #[.int .i64 1700, .slice D1 (n + 2) d1, .slice D2 0 d2] 25)).alloc (.cells #[.int .i64 1, .int .i64 2] 87)).heap.size = w1.heap.size + 1 + 1 := by simp
    rw [e1] at ks
    rw [e2] at kt
    clear e1 e2
    have ux : Up w1 (((w1.alloc (.cells #[.int .i64 1700, .slice D1 (n + 2) d1, .slice D2 0 d2] 25)).alloc (.cells #[.int .i64 1, .int .i64 2] 87)).alloc (.cells #[.int .i64 1, .int .i64 1, .int .i64 0, .slice (some ⟨w1.heap.size + 1, 0, none⟩) 1 1] 28)) := (((Up.refl _).alloc _).alloc _).alloc _
    have z1 := u1.size
    have zx : (((w1.alloc (.cells #[.int .i64 1700, .slice D1 (n + 2) d1, .slice D2 0 d2] 25)).alloc (.cells #[.int .i64 1, .int .i64 2] 87)).alloc (.cells #[.int .i64 1, .int .i64 1, .int .i64 0, .slice (some ⟨w1.heap.size + 1, 0, none⟩) 1 1] 28)).heap.size = w1.heap.size + 1 + 1 + 1 := by simp
    generalize (((w1.alloc (.cells #[.int .i64 1700, .slice D1 (n + 2) d1, .slice D2 0 d2] 25)).alloc (.cells #[.int .i64 1, .int .i64 2] 87)).alloc (.cells #[.int .i64 1, .int .i64 1, .int .i64 0, .slice (some ⟨w1.heap.size + 1, 0, none⟩) 1 1] 28)) = W2 at ko ks kt ux zx ⊢
    have zw : w.heap.size + 1 ≤ w1.heap.size := by have := u1.size; simpa using this
    replace kr := kr1.up ux
    replace uu := uu1.trans ux
    have hin1 := s1.in_ good_S
    have hin2 := s2.in_ good_Put
    replace s1 := s1.up good_S ux
    replace s2 := s2.up good_Put ux
    have nd1 : bl1.Nodup := (List.nodup_append.1 nd).1
    have hdis : ∀ y ∈ bl1, y ∉ bl2 := fun y hy hy2 => (List.nodup_append.1 nd).2.2 y hy y hy2 rfl
    clear kr1 uu1 so ux
    replace ko := ko.drew
    replace ks := ks.drew
    replace kt := kt.drew
    replace kr := kr.drew
    replace uu := uu.drew
    replace s1 := s1.up good_S ((Up.refl W2).drew)
    replace s2 := s2.up good_Put ((Up.refl W2).drew)
    obtain ⟨g, off, _, rfl, hgb, _, _, _, _, _, _⟩ := s1.setS nd1 (m := 1) (by rw [HL.out]; omega)
    have hgi := hin1 g hgb
    have hFB := fieldBtree
    refine wp_region_held_drew (S := fun W => W.cell? ⟨w1.heap.size, 1, none⟩ = some (.slice (some ⟨g, off, none⟩) (n + 2) d1) ∧ W.cell? ⟨w1.heap.size + 1 + 1, 0, none⟩ = some (.int .i64 1) ∧ W.cell? ⟨w1.heap.size + 1 + 1, 1, none⟩ = some (.int .i64 1) ∧ W.cell? ⟨w1.heap.size + 1 + 1, 2, none⟩ = some (.int .i64 0) ∧ W.cell? ⟨w1.heap.size + 1 + 1, 3, none⟩ = some (.slice (some ⟨w1.heap.size + 1, 0, none⟩) 1 1)) (by kernel_rfl) ?_ (fun hHeld0 => ?_)
    · (have q1 : World.cell? _ ⟨w1.heap.size, 1, none⟩ = some (.slice (some ⟨g, off, none⟩) (n + 2) d1) := ko.cell 1; have q2 : World.cell? _ ⟨w1.heap.size + 1 + 1, 0, none⟩ = some (.int .i64 1) := kt.cell 0; have q3 : World.cell? _ ⟨w1.heap.size + 1 + 1, 1, none⟩ = some (.int .i64 1) := kt.cell 1; have q4 : World.cell? _ ⟨w1.heap.size + 1 + 1, 2, none⟩ = some (.int .i64 0) := kt.cell 2; have q5 : World.cell? _ ⟨w1.heap.size + 1 + 1, 3, none⟩ = some (.slice (some ⟨w1.heap.size + 1, 0, none⟩) 1 1) := kt.cell 3; with_reducible exact ⟨q1, q2, q3, q4, q5⟩)
    refine wpAnyH_take (i := 0) (v := ?_) rfl (by kernel_rfl) (by kernel_rfl) (by kernel_rfl) (fun _ _ _ h => h) (Or.inl ⟨by rfl, ?_⟩) (by assumption) ?_
    rotate_left
    · intro W hSW
      try dsimp only at hSW
      go_simp
      try with_reducible rfl
    try simp only [Act.put, List.setIfInBounds_toArray, List.set_cons_zero, List.set_cons_succ]
    refine wpAnyH_take (i := 1) (v := ?_) rfl (by kernel_rfl) (by kernel_rfl) (by kernel_rfl) (fun _ _ _ h => h) (Or.inl ⟨by rfl, ?_⟩) (by assumption) ?_
    rotate_left
    · intro W hSW
      try dsimp only at hSW
      go_simp
      try with_reducible rfl
    try simp only [Act.put, List.setIfInBounds_toArray, List.set_cons_zero, List.set_cons_succ]
    refine wpAnyH_take (i := 2) (v := ?_) rfl (by kernel_rfl) (by kernel_rfl) (by kernel_rfl) (fun _ _ _ h => h) (Or.inl ⟨by rfl, ?_⟩) (by assumption) ?_
    rotate_left
    · intro W hSW
      try dsimp only at hSW
      go_simp
      try with_reducible rfl
    try simp only [Act.put, List.setIfInBounds_toArray, List.set_cons_zero, List.set_cons_succ]
    refine wpAnyH_take (i := 3) (v := ?_) rfl (by kernel_rfl) (by kernel_rfl) (by kernel_rfl) (fun _ _ _ h => h) (Or.inl ⟨by rfl, ?_⟩) (by assumption) ?_
    rotate_left
    · intro W hSW
      try dsimp only at hSW
      go_simp
      try with_reducible rfl
    try simp only [Act.put, List.setIfInBounds_toArray, List.set_cons_zero, List.set_cons_succ]
    refine wpAnyH_take (i := 4) (v := ?_) rfl (by kernel_rfl) (by kernel_rfl) (by kernel_rfl) (fun _ _ _ h => h) (Or.inl ⟨by rfl, ?_⟩) (by assumption) ?_
    rotate_left
    · intro W hSW
      try dsimp only at hSW
      go_simp
      try with_reducible rfl
    try simp only [Act.put, List.setIfInBounds_toArray, List.set_cons_zero, List.set_cons_succ]
    refine wpAnyH_ready (rs := [5]) (by kernel_rfl) (by simp) ?_
    refine AllReadyH.cons rfl (fun K hK => ?_) AllReadyH.nil
    go_simp
    go_at_call 45
    (with_reducible refine (ci_PutTop _ nTop _ (av_nTop ks) nTop_sz).mono ?_)
    rintro e w3 ⟨rfl, u3⟩
    replace ko := ko.up u3; replace ks := ks.up u3; replace kt := kt.up u3; replace kr := kr.up u3; replace uu := uu.trans u3; replace s1 := s1.up good_S u3; replace s2 := s2.up good_Put u3
    have zz3 := u3.size
    refine hK.out _ _ ?_ (fun hHeld => ?_)
    · (have q1 : World.cell? _ ⟨w1.heap.size, 1, none⟩ = some (.slice (some ⟨g, off, none⟩) (n + 2) d1) := ko.cell 1; have q2 : World.cell? _ ⟨w1.heap.size + 1 + 1, 0, none⟩ = some (.int .i64 1) := kt.cell 0; have q3 : World.cell? _ ⟨w1.heap.size + 1 + 1, 1, none⟩ = some (.int .i64 1) := kt.cell 1; have q4 : World.cell? _ ⟨w1.heap.size + 1 + 1, 2, none⟩ = some (.int .i64 0) := kt.cell 2; have q5 : World.cell? _ ⟨w1.heap.size + 1 + 1, 3, none⟩ = some (.slice (some ⟨w1.heap.size + 1, 0, none⟩) 1 1) := kt.cell 3; with_reducible exact ⟨q1, q2, q3, q4, q5⟩)
    clear hK K
    try simp only [Act.put, List.setIfInBounds_toArray, List.set_cons_zero, List.set_cons_succ]
    refine wpAnyH_ready (rs := [6]) (by kernel_rfl) (by simp) ?_
    refine AllReadyH.cons rfl (fun K hK => ?_) AllReadyH.nil
    go_simp
    go_at_call 47
    (with_reducible refine (c_NewBtreeBk _).mono ?_)
    rintro e w4 ⟨h, rfl, hlo, kn, u4⟩
    replace ko := ko.up u4; replace ks := ks.up u4; replace kt := kt.up u4; replace kr := kr.up u4; replace uu := uu.trans u4; replace s1 := s1.up good_S u4; replace s2 := s2.up good_Put u4
    have zz4 := u4.size
    have n0 : World.cell? w4 ⟨h, 1, none⟩ = some (.bool true) := kn.cell 1
    have n1 : World.cell? w4 ⟨h, 2, none⟩ = some (.slice none 0 0) := kn.cell 2
    have n2 : World.cell? w4 ⟨h, 3, none⟩ = some (.slice none 0 0) := kn.cell 3
    have n3 : World.cell? w4 ⟨h, 4, none⟩ = some (.slice none 0 0) := kn.cell 4
    refine hK.out _ _ ?_ (fun hHeld => ?_)
    · (have q1 : World.cell? _ ⟨w1.heap.size, 1, none⟩ = some (.slice (some ⟨g, off, none⟩) (n + 2) d1) := ko.cell 1; have q2 : World.cell? _ ⟨w1.heap.size + 1 + 1, 0, none⟩ = some (.int .i64 1) := kt.cell 0; have q3 : World.cell? _ ⟨w1.heap.size + 1 + 1, 1, none⟩ = some (.int .i64 1) := kt.cell 1; have q4 : World.cell? _ ⟨w1.heap.size + 1 + 1, 2, none⟩ = some (.int .i64 0) := kt.cell 2; have q5 : World.cell? _ ⟨w1.heap.size + 1 + 1, 3, none⟩ = some (.slice (some ⟨w1.heap.size + 1, 0, none⟩) 1 1) := kt.cell 3; with_reducible exact ⟨q1, q2, q3, q4, q5⟩)
    clear hK K
    try simp only [Act.put, List.setIfInBounds_toArray, List.set_cons_zero, List.set_cons_succ]
    refine wpAnyH_take (i := 7) (v := ?_) rfl (by kernel_rfl) (by kernel_rfl) (by kernel_rfl) (fun _ _ _ h => h) (Or.inl ⟨by rfl, ?_⟩) (by assumption) ?_
    rotate_left
    · intro W hSW
      try dsimp only at hSW
      go_simp
      try with_reducible rfl
    try simp only [Act.put, List.setIfInBounds_toArray, List.set_cons_zero, List.set_cons_succ]
    refine wpAnyH_take (i := 8) (v := ?_) rfl (by kernel_rfl) (by kernel_rfl) (by kernel_rfl) (fun _ _ _ h => h) (Or.inl ⟨by rfl, ?_⟩) (by assumption) ?_
    rotate_left
    · intro W hSW
      try dsimp only at hSW
      go_simp
      try with_reducible rfl
    try simp only [Act.put, List.setIfInBounds_toArray, List.set_cons_zero, List.set_cons_succ]
    refine wpAnyH_take (i := 9) (v := ?_) rfl (by kernel_rfl) (by kernel_rfl) (by kernel_rfl) (fun _ _ _ h => h) (Or.inl ⟨by rfl, ?_⟩) (by assumption) ?_
    rotate_left
    · intro W hSW
      try dsimp only at hSW
      go_simp
      try with_reducible rfl
    try simp only [Act.put, List.setIfInBounds_toArray, List.set_cons_zero, List.set_cons_succ]
    refine wpAnyH_ready (rs := [10]) (by kernel_rfl) (by simp) ?_
    refine AllReadyH.cons rfl (fun K hK => ?_) AllReadyH.nil
    go_simp
    go_wp2_with fail
    refine hK.out _ _ ?_ (fun hHeld => ?_)
    · (have q1 : World.cell? _ ⟨w1.heap.size, 1, none⟩ = some (.slice (some ⟨g, off, none⟩) (n + 2) d1) := ko.cell 1; have q2 : World.cell? _ ⟨w1.heap.size + 1 + 1, 0, none⟩ = some (.int .i64 1) := kt.cell 0; have q3 : World.cell? _ ⟨w1.heap.size + 1 + 1, 1, none⟩ = some (.int .i64 1) := kt.cell 1; have q4 : World.cell? _ ⟨w1.heap.size + 1 + 1, 2, none⟩ = some (.int .i64 0) := kt.cell 2; have q5 : World.cell? _ ⟨w1.heap.size + 1 + 1, 3, none⟩ = some (.slice (some ⟨w1.heap.size + 1, 0, none⟩) 1 1) := kt.cell 3; with_reducible exact ⟨q1, q2, q3, q4, q5⟩)
    clear hK K
    try simp only [Act.put, List.setIfInBounds_toArray, List.set_cons_zero, List.set_cons_succ]
    refine wpAnyH_ready (rs := [11]) (by kernel_rfl) (by simp) ?_
    refine AllReadyH.cons rfl (fun K hK => ?_) AllReadyH.nil
    go_simp
    go_at_call 46
    have ht5 : Tab _ := tab_up htab uu
    have hm5' := maxL_up hm uu
    (with_reducible refine (ci_PutPage _ nPage _ (av_nPage _) nPage_sz ht5 hm5').mono ?_)
    rintro e w5 ⟨rfl, u5⟩
    replace ko := ko.up u5; replace ks := ks.up u5; replace kt := kt.up u5; replace kr := kr.up u5; replace uu := uu.trans u5; replace s1 := s1.up good_S u5; replace s2 := s2.up good_Put u5
    have zz5 := u5.size
    obtain ⟨_, _, _, hgo, _, _, _, _, gc1, gf1, hset1⟩ := s1.setS nd1 (m := 1) (by rw [HL.out]; omega)
    cases hgo
    have hs1 := hset1 (putTop nTop) putTop_nTop
    obtain ⟨_, _, _, hgo, _, _, _, _, gc2, gf2, hset2⟩ := hs1.setS nd1 (m := 2) (by rw [List.length_set, HL.out]; omega)
    cases hgo
    refine hK.out _ _ ?_ (fun hHeld => ?_)
    · (have q1 : World.cell? _ ⟨w1.heap.size, 1, none⟩ = some (.slice (some ⟨g, off, none⟩) (n + 2) d1) := ko.cell 1; have q2 : World.cell? _ ⟨w1.heap.size + 1 + 1, 0, none⟩ = some (.int .i64 1) := kt.cell 0; have q3 : World.cell? _ ⟨w1.heap.size + 1 + 1, 1, none⟩ = some (.int .i64 1) := kt.cell 1; have q4 : World.cell? _ ⟨w1.heap.size + 1 + 1, 2, none⟩ = some (.int .i64 0) := kt.cell 2; have q5 : World.cell? _ ⟨w1.heap.size + 1 + 1, 3, none⟩ = some (.slice (some ⟨w1.heap.size + 1, 0, none⟩) 1 1) := kt.cell 3; with_reducible exact ⟨q1, q2, q3, q4, q5⟩)
    clear hK K
    try simp only [Act.put, List.setIfInBounds_toArray, List.set_cons_zero, List.set_cons_succ]
    refine wpAnyH_take (i := 12) (v := ?_) rfl (by kernel_rfl) (by kernel_rfl) (by kernel_rfl) (fun _ _ _ h => h) (Or.inl ⟨by rfl, ?_⟩) (by assumption) ?_
    rotate_left
    · intro W hSW
      try dsimp only at hSW
      go_simp
      try with_reducible rfl
    try simp only [Act.put, List.setIfInBounds_toArray, List.set_cons_zero, List.set_cons_succ]
    refine wpAnyH_ready (rs := [13]) (by kernel_rfl) (by simp) ?_
    refine AllReadyH.cons rfl (fun K hK => ?_) AllReadyH.nil
    go_simp
    refine hK.out _ _ ?_ (fun hHeld => ?_)
    · (have q1 : World.cell? _ ⟨w1.heap.size, 1, none⟩ = some (.slice (some ⟨g, off, none⟩) (n + 2) d1) := (ko.far (p := ⟨g, off + 1, none⟩) (by dsimp only; omega) (.string (putTop nTop))).cell 1; have q2 : World.cell? _ ⟨w1.heap.size + 1 + 1, 0, none⟩ = some (.int .i64 1) := (kt.far (p := ⟨g, off + 1, none⟩) (by dsimp only; omega) (.string (putTop nTop))).cell 0; have q3 : World.cell? _ ⟨w1.heap.size + 1 + 1, 1, none⟩ = some (.int .i64 1) := (kt.far (p := ⟨g, off + 1, none⟩) (by dsimp only; omega) (.string (putTop nTop))).cell 1; have q4 : World.cell? _ ⟨w1.heap.size + 1 + 1, 2, none⟩ = some (.int .i64 0) := (kt.far (p := ⟨g, off + 1, none⟩) (by dsimp only; omega) (.string (putTop nTop))).cell 2; have q5 : World.cell? _ ⟨w1.heap.size + 1 + 1, 3, none⟩ = some (.slice (some ⟨w1.heap.size + 1, 0, none⟩) 1 1) := (kt.far (p := ⟨g, off + 1, none⟩) (by dsimp only; omega) (.string (putTop nTop))).cell 3; with_reducible exact ⟨q1, q2, q3, q4, q5⟩)
    clear hK K
    try simp only [Act.put, List.setIfInBounds_toArray, List.set_cons_zero, List.set_cons_succ]
    refine wpAnyH_take (i := 14) (v := ?_) rfl (by kernel_rfl) (by kernel_rfl) (by kernel_rfl) (fun _ _ _ h => h) (Or.inl ⟨by rfl, ?_⟩) (by assumption) ?_
    rotate_left
    · intro W hSW
      try dsimp only at hSW
      go_simp
      try with_reducible rfl
    try simp only [Act.put, List.setIfInBounds_toArray, List.set_cons_zero, List.set_cons_succ]
    refine wpAnyH_ready (rs := [15]) (by kernel_rfl) (by simp) ?_
    refine AllReadyH.cons rfl (fun K hK => ?_) AllReadyH.nil
    go_simp
    refine hK.out _ _ ?_ (fun hHeld => ?_)
    · (have q1 : World.cell? _ ⟨w1.heap.size, 1, none⟩ = some (.slice (some ⟨g, off, none⟩) (n + 2) d1) := ((ko.far (p := ⟨g, off + 1, none⟩) (by dsimp only; omega) (.string (putTop nTop))).far (p := ⟨g, off + 2, none⟩) (by dsimp only; omega) (.string (pageT nPage))).cell 1; have q2 : World.cell? _ ⟨w1.heap.size + 1 + 1, 0, none⟩ = some (.int .i64 1) := ((kt.far (p := ⟨g, off + 1, none⟩) (by dsimp only; omega) (.string (putTop nTop))).far (p := ⟨g, off + 2, none⟩) (by dsimp only; omega) (.string (pageT nPage))).cell 0; have q3 : World.cell? _ ⟨w1.heap.size + 1 + 1, 1, none⟩ = some (.int .i64 1) := ((kt.far (p := ⟨g, off + 1, none⟩) (by dsimp only; omega) (.string (putTop nTop))).far (p := ⟨g, off + 2, none⟩) (by dsimp only; omega) (.string (pageT nPage))).cell 1; have q4 : World.cell? _ ⟨w1.heap.size + 1 + 1, 2, none⟩ = some (.int .i64 0) := ((kt.far (p := ⟨g, off + 1, none⟩) (by dsimp only; omega) (.string (putTop nTop))).far (p := ⟨g, off + 2, none⟩) (by dsimp only; omega) (.string (pageT nPage))).cell 2; have q5 : World.cell? _ ⟨w1.heap.size + 1 + 1, 3, none⟩ = some (.slice (some ⟨w1.heap.size + 1, 0, none⟩) 1 1) := ((kt.far (p := ⟨g, off + 1, none⟩) (by dsimp only; omega) (.string (putTop nTop))).far (p := ⟨g, off + 2, none⟩) (by dsimp only; omega) (.string (pageT nPage))).cell 3; with_reducible exact ⟨q1, q2, q3, q4, q5⟩)
    clear hK K
    try simp only [Act.put, List.setIfInBounds_toArray, List.set_cons_zero, List.set_cons_succ]
    refine wpAnyH_done (by kernel_rfl) ?_ _
    have b5 := But.set w5 g (off + 1) (.string (putTop nTop))
    have b6 := But.set (w5.setCell ⟨g, off + 1, none⟩ (.string (putTop nTop))) g (off + 2) (.string (pageT nPage))
    have s1' := hset2 (pageT nPage) pageT_nPage
    generalize (w5.setCell ⟨g, off + 1, none⟩ (.string (putTop nTop))) = W5 at b5 b6 s1' ⊢
    generalize (W5.setCell ⟨g, off + 2, none⟩ (.string (pageT nPage))) = W6 at b6 s1' ⊢
    have z5 := b5.size
    have z6 := b6.size
    replace ko := (ko.butM b5 (by omega)).butM b6 (by omega)
    replace ks := (ks.butM b5 (by omega)).butM b6 (by omega)
    replace kt := (kt.butM b5 (by omega)).butM b6 (by omega)
    replace kr := (kr.butM b5 (by omega)).butM b6 (by omega)
    replace uu := (uu.but b5 (by omega)).but b6 (by omega)
    replace s2 := (s2.keep good_Put (fun y hy => b5.block y (fun e => hdis g hgb (e ▸ hy)))).keep good_Put (fun y hy => b6.block y (fun e => hdis g hgb (e ▸ hy)))
    rw [← z5, ← z6] at s1' s2
    clear hset2 hset1 hs1 gc2 gf2 gc1 gf1 s1 b5 b6
    have o0 : World.cell? W6 ⟨w1.heap.size, 0, none⟩ = some (.int .i64 1700) := ko.cell 0
    have o1 : World.cell? W6 ⟨w1.heap.size, 1, none⟩ = some (.slice (some ⟨g, off, none⟩) (n + 2) d1) := ko.cell 1
    have o2 : World.cell? W6 ⟨w1.heap.size, 2, none⟩ = some (.slice D2 0 d2) := ko.cell 2
    have t0 : World.cell? W6 ⟨w1.heap.size + 1 + 1, 0, none⟩ = some (.int .i64 1) := kt.cell 0
    have t1 : World.cell? W6 ⟨w1.heap.size + 1 + 1, 1, none⟩ = some (.int .i64 1) := kt.cell 1
    have t2 : World.cell? W6 ⟨w1.heap.size + 1 + 1, 2, none⟩ = some (.int .i64 0) := kt.cell 2
    have t3 : World.cell? W6 ⟨w1.heap.size + 1 + 1, 3, none⟩ = some (.slice (some ⟨w1.heap.size + 1, 0, none⟩) 1 1) := kt.cell 3
    go_wp2_with (first | ((with_reducible show wpList _ _ _ ((⟨none, .store _ _ _, _, _, _, none⟩ : Oper) :: _) _ _); refine wpList_store_bk [.int .i64 1700, .slice (some ⟨g, off, none⟩) (n + 2) d1, .slice D2 0 d2, .int .i64 1, .int .i64 1, .int .i64 0, .slice (some ⟨w1.heap.size + 1, 0, none⟩) 1 1, .int .i64 0, .int .i64 0, .int .i64 0, .slice none 0 0, .slice none 0 0, .slice none 0 0] kr rfl rfl (by kernel_rfl) rfl (Nat.le_of_ble_eq_true rfl) ?_; intro W7 b7 kr7))
    replace kr7 : Bk W7 w.heap.size 31 #[.int .i64 1700, .slice (some ⟨g, off, none⟩) (n + 2) d1, .slice D2 0 d2, .int .i64 1, .int .i64 1, .int .i64 0, .slice (some ⟨w1.heap.size + 1, 0, none⟩) 1 1, .int .i64 0, .int .i64 0, .int .i64 0, .slice none 0 0, .slice none 0 0, .slice none 0 0] := kr7
    refine bodyPost_ret (results_bk2 kr7 _ _ _ Tryz.results12 rfl rfl Tryz.underlying31 rfl (by kernel_rfl)) rfl ?_
    replace ks := ks.butM b7 (by omega)
    have z7 := b7.size
    have q1 := s1'.but good_S b7 (by omega)
    have q2 := s2.but good_Put b7 (by omega)
    have q3 := so_seat (lo := w1.heap.size + 1) (hi := W7.heap.size) ks (Nat.le_refl _) (by have := ks.lt; omega)
    have hn2 : (nSect n).length = n + 2 := by unfold nSect; rw [List.length_set, List.length_set, HL.out]
    have od := asmDisk (x0 := 1700) (x1 := nSect n) (x2 := []) i0 (q1.wide good_S (lo' := w.heap.size) (by omega) (Nat.le_refl _)) (q2.wide good_Put (lo' := w.heap.size) (by omega) (Nat.le_refl _))
    have ot := asmTop (x0 := 1) (x1 := 1) (x2 := 0) (x3 := [(1, 2)]) i64o i64o i64z (q3.wide good_Seat (lo' := w.heap.size) (by omega) (Nat.le_refl _))
    have oc := asmCache (x1 := nSect n) (x2 := []) (x6 := [(1, 2)]) (x10 := []) (x11 := []) (x12 := []) (bl7 := []) (bl11 := []) (bl12 := []) od ot (own_nTop0 _ _ _) (SO.nil _ _ _) (SO.nil _ _ _)
    rw [hn2] at oc
    refine ⟨_, _, rfl, oc, ?_, uu.but b7 (by omega)⟩
    have nd4 : (bl1 ++ bl2 ++ [w1.heap.size + 1]).Nodup := by
      refine List.nodup_append.2 ⟨nd, by simp, ?_⟩
      rintro y hy z hz rfl
      obtain rfl : y = w1.heap.size + 1 := by simpa using hz
      rcases List.mem_append.1 hy with h | h
      · have := hin1 _ h; omega
      · have := hin2 _ h; omega
    simpa using nd4
theorem cbg_NewCache (a : Int) : (1 : Int) + (mmTCache.cnt (nCache a) : Nat) ≤ 1000000000 := by
  have e : ∀ y : TCache, mmTCache.cnt y = mmTDisk.cnt y.1 + ((0 + (0 + (0 + (y.2.1.2.2.2.map (fun _ => 2)).sum))) + ((0 + (0 + (0 + (y.2.2.1.2.2.2.map (fun _ => 2)).sum))) + ((y.2.2.2.1.map (fun _ => 2)).sum + (y.2.2.2.2.map (fun _ => 1)).sum))) := fun _ => rfl
  rw [e, cntDisk_eq]
  unfold nCache
  split
  · rename_i h
    have hb := inB_t.1 h
    have hl : (nSect a.toNat).length ≤ 402 := by unfold nSect; rw [List.length_set, List.length_set, List.length_replicate]; omega
    generalize nSect a.toNat = l at hl
    simp [nTop]
    omega
  · decide
end Go.Proofs.YtlifhbfomgbiaaaGreatDoor
