/-
  NewCache: the reference's.
-/
import Derived.Test.YtlifhbfomgbiaaaGreatDoorMRc
import Derived.Test.YtlifhbfomgbiaaaGreatDoorML
import Derived.Test.YtlifhbfomgbiaaaGreatDoorMK
namespace Go.Proofs.YtlifhbfomgbiaaaGreatDoor
open Go.RowKit
set_option linter.unusedVariables false
set_option linter.unusedSimpArgs false

def nTop : TTop := (1, 1, 0, [(1, 2)])
def nPage : TPage := (true, [], [], [])
def nSect (n : Nat) : List ByteArray := ((List.replicate (n + 2) (zs 1700)).set 1 (putTop nTop)).set 2 (pageT nPage)
def nZero : TCache := ((0, [], []), (0, 0, 0, []), (0, 0, 0, []), [], [])
def nCache (a : Int) : TCache := if inB a 2 398 = true then ((1700, nSect a.toNat, []), nTop, (0, 0, 0, []), [], []) else nZero
def nCode (a : Int) : Int := if inB a 2 398 = true then 0 else 2
theorem i64z : I64 0 := ⟨by decide, by decide⟩
theorem i64o : I64 1 := ⟨by decide, by decide⟩
theorem own_nTop0 (w : World) (lo hi : Nat) : shTop.own w lo hi [.int .i64 0, .int .i64 0, .int .i64 0, .slice none 0 0] (0, 0, 0, []) [] := asmTop (x0 := 0) (x1 := 0) (x2 := 0) (x3 := []) i64z i64z i64z (SO.nil _ _ _)
theorem own_nDisk0 (w : World) (lo hi : Nat) : shDisk.own w lo hi [.int .i64 0, .slice none 0 0, .slice none 0 0] (0, [], []) [] := asmDisk (x0 := 0) (x1 := []) (x2 := []) (bl1 := []) (bl2 := []) i64z (SO.nil _ _ _) (SO.nil _ _ _)
theorem own_nZero (w : World) (lo hi : Nat) : shCache.own w lo hi [.int .i64 0, .slice none 0 0, .slice none 0 0, .int .i64 0, .int .i64 0, .int .i64 0, .slice none 0 0, .int .i64 0, .int .i64 0, .int .i64 0, .slice none 0 0, .slice none 0 0, .slice none 0 0] nZero [] :=
  asmCache (x1 := []) (x2 := []) (x6 := []) (x10 := []) (x11 := []) (x12 := []) (bl0 := []) (bl3 := []) (bl7 := []) (bl11 := []) (bl12 := []) (own_nDisk0 w lo hi) (own_nTop0 w lo hi) (own_nTop0 w lo hi) (SO.nil _ _ _) (SO.nil _ _ _)
theorem so_seat {w : World} {g lo hi : Nat} (h : Bk w g 87 #[.int .i64 1, .int .i64 2]) (h1 : lo ≤ g) (h2 : g < hi) : SO shSeat w lo hi (some ⟨g, 0, none⟩) 1 [(1, 2)] [g] := by
  have hx := SO.of_row (s := shSeat) (w := w) (lo := lo) (hi := hi) (g := g) (off := 0) (c := 1) (xs := [(1, 2)]) (bls := [[]]) (olds := [.int .i64 1, .int .i64 2]) h1 h2 h (by show 0 + 1 * 2 ≤ 2; omega) (by simp) (by unfold maxLen; omega) (Rowed.one good_Seat ⟨[], [], rfl, ⟨⟨rfl, by decide, by decide⟩, rfl⟩, ⟨⟨rfl, by decide, by decide⟩, rfl⟩⟩) (fun j hj => by simp)
  simpa using hx
theorem av_nTop {w : World} {g : Nat} (h : Bk w g 87 #[.int .i64 1, .int .i64 2]) : AV shTop w (.agg #[.int .i64 1, .int .i64 1, .int .i64 0, .slice (some ⟨g, 0, none⟩) 1 1]) nTop :=
  ⟨_, rfl, mkTop (x := nTop) i64o i64o i64z ((so_seat h (Nat.zero_le _) h.lt).rep good_Seat)⟩
theorem av_nPage (w : World) : AV shPage w (.agg #[.bool true, .slice none 0 0, .slice none 0 0, .slice none 0 0]) nPage :=
  ⟨_, rfl, mkPage (x := nPage) (SR.nil _ _ _) (SR.nil _ _ _) (SR.nil _ _ _)⟩
theorem nPage_sz : shPage.sz nPage ≤ 1048576 := by decide
theorem putTop_nTop : (putTop nTop).size ≤ maxLen := by decide +kernel
theorem pageT_nPage : (pageT nPage).size ≤ maxLen := by decide +kernel
theorem nTop_sz : shTop.sz nTop ≤ 1048576 := by decide
set_option maxRecDepth 100000 in
set_option maxHeartbeats 16000000 in
theorem cs0_NewCache (a : Int) (w : World) (ha : I64 a) : Calls Tryz.prog 11 #[.int .i64 a] w (ToR shCache (nCache a) (nCode a) w) := by
  have kr := Bk.new w 31 #[.int .i64 0, .slice none 0 0, .slice none 0 0, .int .i64 0, .int .i64 0, .int .i64 0, .slice none 0 0, .int .i64 0, .int .i64 0, .int .i64 0, .slice none 0 0, .slice none 0 0, .slice none 0 0]
  have uu : Up w (w.alloc (.cells #[.int .i64 0, .slice none 0 0, .slice none 0 0, .int .i64 0, .int .i64 0, .int .i64 0, .slice none 0 0, .int .i64 0, .int .i64 0, .int .i64 0, .slice none 0 0, .slice none 0 0, .slice none 0 0] 31)) := (Up.refl w).alloc _
  cases q : inB a 2 398
  · have hv1 : nCache a = nZero := by unfold nCache; rw [q]; rfl
    have hv2 : nCode a = 2 := by unfold nCode; rw [q]; rfl
    go_enter Tryz.func11, Tryz.ntmps11
    go_wp2_with (first | (go_at_call 39; refine (in_any _ _ _ _).mono ?_; rintro e w' ⟨rfl, rfl⟩; rw [q]) | (refine wpList_store_bk [.int .i64 0, .slice none 0 0, .slice none 0 0, .int .i64 0, .int .i64 0, .int .i64 0, .slice none 0 0, .int .i64 0, .int .i64 0, .int .i64 0, .slice none 0 0, .slice none 0 0, .slice none 0 0] kr rfl rfl (by kernel_rfl) rfl (Nat.le_of_ble_eq_true rfl) ?_; intro W1 bt kr1; replace kr : Bk W1 w.heap.size 31 #[.int .i64 0, .slice none 0 0, .slice none 0 0, .int .i64 0, .int .i64 0, .int .i64 0, .slice none 0 0, .int .i64 0, .int .i64 0, .int .i64 0, .slice none 0 0, .slice none 0 0, .slice none 0 0] := kr1; clear kr1; replace uu := uu.but bt (Nat.le_refl _); clear bt))
    refine bodyPost_ret (results_bk2 kr _ _ _ Tryz.results11 rfl rfl Tryz.underlying31 rfl (by kernel_rfl)) rfl ?_
    rw [hv1, hv2]
    exact ⟨_, [], rfl, own_nZero _ _ _, by simp, uu⟩
  · have hb := inB_t.1 q
    obtain ⟨n, hn⟩ : ∃ n : Nat, a = (n : Int) := ⟨a.toNat, by omega⟩
    subst hn
    have hv1 : nCache (n : Int) = ((1700, nSect n, []), nTop, (0, 0, 0, []), [], []) := by unfold nCache; rw [if_pos q, Int.toNat_natCast]
    have hv2 : nCode (n : Int) = 0 := by unfold nCode; rw [if_pos q]
    have hw2 : wrap64 ((n : Int) + 2) = (n : Int) + 2 := by unfold wrap64; omega
    have hdc : newDiskC ((n : Int) + 2) 1700 = 0 := by unfold newDiskC; rw [if_pos ⟨inB_t.2 (by omega), by decide⟩]
    have hnd : newDisk ((n : Int) + 2) 1700 = (1700, List.replicate (n + 2) (zs 1700), []) := by
      unfold newDisk
      rw [if_pos hdc]
      have e1 : ((n : Int) + 2).toNat = n + 2 := by omega
      rw [e1]; rfl
    have cd := fun W => cs0_NewDisk ((n : Int) + 2) 1700 W ⟨by omega, by omega⟩ ⟨by decide, by decide⟩
    rw [hdc, hnd] at cd
    have CD := Lib.hid cd
    clear cd hnd hdc
    go_enter Tryz.func11, Tryz.ntmps11
    go_wp2_with (go_at_call 39; refine (in_any _ _ _ _).mono ?_; rintro e w' ⟨rfl, rfl⟩; rw [q])
    refine (CD.out _).mono ?_
    rintro e w1 ⟨cs, bl, rfl, so, nd, u1⟩
    have e0 : (w.alloc (.cells #[.int .i64 0, .slice none 0 0, .slice none 0 0, .int .i64 0, .int .i64 0, .int .i64 0, .slice none 0 0, .int .i64 0, .int .i64 0, .int .i64 0, .slice none 0 0, .slice none 0 0, .slice none 0 0] 31)).heap.size = w.heap.size + 1 := by simp
    rw [e0] at so
    clear e0
    obtain ⟨D1, d1, bl1, D2, d2, bl2, rfl, rfl, i0, s1, s2⟩ := openODisk so
    dsimp only at s1 s2
    have uu1 := uu.trans u1
    have kr1 := kr.up u1
    have HL : Hid ((List.replicate (n + 2) (zs 1700)).length = n + 2) := List.length_replicate
    rw [HL.out, List.length_nil]
    have hm0 : (0 : Int) ≤ 1 := by decide
    have hm1 : (1 : Int) < ((n + 2 : Nat) : Int) := by omega
    have hm3 : (1 : Int) < (n : Int) + 2 := by omega
    have hm4 : (2 : Int) < (n : Int) + 2 := by omega
    have hm5 : (0 : Int) ≤ 2 := by decide
    have hm2 : (2 : Int) < ((n + 2 : Nat) : Int) := by omega
    go_wp2_with fail
    have ko := ((Bk.new w1 25 #[.int .i64 1700, .slice D1 (n + 2) d1, .slice D2 0 d2]).alloc (.cells #[.int .i64 1, .int .i64 2] 87)).alloc (.cells #[.int .i64 1, .int .i64 1, .int .i64 0, .slice (some ⟨w1.heap.size + 1, 0, none⟩) 1 1] 28)
    have ks := (Bk.new (w1.alloc (.cells #[.int .i64 1700, .slice D1 (n + 2) d1, .slice D2 0 d2] 25)) 87 #[.int .i64 1, .int .i64 2]).alloc (.cells #[.int .i64 1, .int .i64 1, .int .i64 0, .slice (some ⟨w1.heap.size + 1, 0, none⟩) 1 1] 28)
    have kt := Bk.new ((w1.alloc (.cells #[.int .i64 1700, .slice D1 (n + 2) d1, .slice D2 0 d2] 25)).alloc (.cells #[.int .i64 1, .int .i64 2] 87)) 28 #[.int .i64 1, .int .i64 1, .int .i64 0, .slice (some ⟨w1.heap.size + 1, 0, none⟩) 1 1]
    have e1 : (w1.alloc (.cells #[.int .i64 1700, .slice D1 (n + 2) d1, .slice D2 0 d2] 25)).heap.size = w1.heap.size + 1 := by simp
    have e2 : ((w1.alloc (.cells #[.int .i64 1700, .slice D1 (n + 2) d1, .slice D2 0 d2] 25)).alloc (.cells #[.int .i64 1, .int .i64 2] 87)).heap.size = w1.heap.size + 1 + 1 := by simp
    rw [e1] at ks
    rw [e2] at kt
    clear e1 e2
    have ux : Up w1 (((w1.alloc (.cells #[.int .i64 1700, .slice D1 (n + 2) d1, .slice D2 0 d2] 25)).alloc (.cells #[.int .i64 1, .int .i64 2] 87)).alloc (.cells #[.int .i64 1, .int .i64 1, .int .i64 0, .slice (some ⟨w1.heap.size + 1, 0, none⟩) 1 1] 28)) := (((Up.refl _).alloc _).alloc _).alloc _
    have z1 := u1.size
    have zx : (((w1.alloc (.cells #[.int .i64 1700, .slice D1 (n + 2) d1, .slice D2 0 d2] 25)).alloc (.cells #[.int .i64 1, .int .i64 2] 87)).alloc (.cells #[.int .i64 1, .int .i64 1, .int .i64 0, .slice (some ⟨w1.heap.size + 1, 0, none⟩) 1 1] 28)).heap.size = w1.heap.size + 1 + 1 + 1 := by simp
    generalize (((w1.alloc (.cells #[.int .i64 1700, .slice D1 (n + 2) d1, .slice D2 0 d2] 25)).alloc (.cells #[.int .i64 1, .int .i64 2] 87)).alloc (.cells #[.int .i64 1, .int .i64 1, .int .i64 0, .slice (some ⟨w1.heap.size + 1, 0, none⟩) 1 1] 28)) = W2 at ko ks kt ux zx ⊢
    have zw : w.heap.size + 1 ≤ w1.heap.size := by have := u1.size; simpa using this
    replace kr := kr1.up ux
    replace uu := uu1.trans ux
    have hin1 := s1.in_ good_S
    have hin2 := s2.in_ good_Put
    replace s1 := s1.up good_S ux
    replace s2 := s2.up good_Put ux
    have nd1 : bl1.Nodup := (List.nodup_append.1 nd).1
    have hdis : ∀ y ∈ bl1, y ∉ bl2 := fun y hy hy2 => (List.nodup_append.1 nd).2.2 y hy y hy2 rfl
    clear kr1 uu1 so ux
    replace ko := ko.drew
    replace ks := ks.drew
    replace kt := kt.drew
    replace kr := kr.drew
    replace uu := uu.drew
    replace s1 := s1.up good_S ((Up.refl W2).drew)
    replace s2 := s2.up good_Put ((Up.refl W2).drew)
    obtain ⟨g, off, _, rfl, hgb, _, _, _, _, _, _⟩ := s1.setS nd1 (m := 1) (by rw [HL.out]; omega)
    have hgi := hin1 g hgb
    go_region_held3 (fun W => W.cell? ⟨w1.heap.size, 1, none⟩ = some (.slice (some ⟨g, off, none⟩) (n + 2) d1) ∧ W.cell? ⟨w1.heap.size + 1 + 1, 0, none⟩ = some (.int .i64 1) ∧ W.cell? ⟨w1.heap.size + 1 + 1, 1, none⟩ = some (.int .i64 1) ∧ W.cell? ⟨w1.heap.size + 1 + 1, 2, none⟩ = some (.int .i64 0) ∧ W.cell? ⟨w1.heap.size + 1 + 1, 3, none⟩ = some (.slice (some ⟨w1.heap.size + 1, 0, none⟩) 1 1)) (first | (have q1 : World.cell? _ ⟨w1.heap.size, 1, none⟩ = some (.slice (some ⟨g, off, none⟩) (n + 2) d1) := ko.cell 1; have q2 : World.cell? _ ⟨w1.heap.size + 1 + 1, 0, none⟩ = some (.int .i64 1) := kt.cell 0; have q3 : World.cell? _ ⟨w1.heap.size + 1 + 1, 1, none⟩ = some (.int .i64 1) := kt.cell 1; have q4 : World.cell? _ ⟨w1.heap.size + 1 + 1, 2, none⟩ = some (.int .i64 0) := kt.cell 2; have q5 : World.cell? _ ⟨w1.heap.size + 1 + 1, 3, none⟩ = some (.slice (some ⟨w1.heap.size + 1, 0, none⟩) 1 1) := kt.cell 3; with_reducible exact ⟨q1, q2, q3, q4, q5⟩) | (have q1 : World.cell? _ ⟨w1.heap.size, 1, none⟩ = some (.slice (some ⟨g, off, none⟩) (n + 2) d1) := (ko.far (p := ⟨g, off + 1, none⟩) (by dsimp only; omega) (.string (putTop nTop))).cell 1; have q2 : World.cell? _ ⟨w1.heap.size + 1 + 1, 0, none⟩ = some (.int .i64 1) := (kt.far (p := ⟨g, off + 1, none⟩) (by dsimp only; omega) (.string (putTop nTop))).cell 0; have q3 : World.cell? _ ⟨w1.heap.size + 1 + 1, 1, none⟩ = some (.int .i64 1) := (kt.far (p := ⟨g, off + 1, none⟩) (by dsimp only; omega) (.string (putTop nTop))).cell 1; have q4 : World.cell? _ ⟨w1.heap.size + 1 + 1, 2, none⟩ = some (.int .i64 0) := (kt.far (p := ⟨g, off + 1, none⟩) (by dsimp only; omega) (.string (putTop nTop))).cell 2; have q5 : World.cell? _ ⟨w1.heap.size + 1 + 1, 3, none⟩ = some (.slice (some ⟨w1.heap.size + 1, 0, none⟩) 1 1) := (kt.far (p := ⟨g, off + 1, none⟩) (by dsimp only; omega) (.string (putTop nTop))).cell 3; with_reducible exact ⟨q1, q2, q3, q4, q5⟩))
      (first
        | (go_at_call 41; (with_reducible refine (cs_PutTop _ nTop _ (av_nTop ks) nTop_sz).mono ?_); rintro e w3 ⟨rfl, u3⟩; replace ko := ko.up u3; replace ks := ks.up u3; replace kt := kt.up u3; replace kr := kr.up u3; replace uu := uu.trans u3; replace s1 := s1.up good_S u3; replace s2 := s2.up good_Put u3; have zz3 := u3.size; obtain ⟨_, _, _, hgo, _, _, _, _, gc1, gf1, hset1⟩ := s1.setS nd1 (m := 1) (by rw [HL.out]; omega); cases hgo))
    have b4 := But.set w3 g (off + 1) (.string (putTop nTop))
    have s1' := hset1 (putTop nTop) putTop_nTop
    generalize (w3.setCell ⟨g, off + 1, none⟩ (.string (putTop nTop))) = W4 at b4 s1' ⊢
    have z4 := b4.size
    replace ko := ko.butM b4 (by omega)
    replace ks := ks.butM b4 (by omega)
    replace kt := kt.butM b4 (by omega)
    replace kr := kr.butM b4 (by omega)
    replace uu := uu.but b4 (by omega)
    replace s2 := s2.keep good_Put (fun y hy => b4.block y (fun e => hdis g hgb (e ▸ hy)))
    rw [← z4] at s1' s2
    clear hset1 gc1 gf1 s1 b4
    go_wp2_with fail
    replace ko := ko.drew
    replace ks := ks.drew
    replace kt := kt.drew
    replace kr := kr.drew
    replace uu := uu.drew
    replace s1' := s1'.up good_S ((Up.refl W4).drew)
    replace s2 := s2.up good_Put ((Up.refl W4).drew)
    go_region_held3 (fun W => W.cell? ⟨w1.heap.size, 1, none⟩ = some (.slice (some ⟨g, off, none⟩) (n + 2) d1)) (first | (have q1 : World.cell? _ ⟨w1.heap.size, 1, none⟩ = some (.slice (some ⟨g, off, none⟩) (n + 2) d1) := ko.cell 1; with_reducible exact q1) | (have q1 : World.cell? _ ⟨w1.heap.size, 1, none⟩ = some (.slice (some ⟨g, off, none⟩) (n + 2) d1) := (ko.far (p := ⟨g, off + 2, none⟩) (by dsimp only; omega) (.string (pageT nPage))).cell 1; with_reducible exact q1))
      (first
        | (go_at_call 42; (with_reducible refine (cs_PutPage _ nPage _ (av_nPage _) nPage_sz).mono ?_); rintro e w5 ⟨rfl, u5⟩; replace ko := ko.up u5; replace ks := ks.up u5; replace kt := kt.up u5; replace kr := kr.up u5; replace uu := uu.trans u5; replace s1' := s1'.up good_S u5; replace s2 := s2.up good_Put u5; have zz5 := u5.size; obtain ⟨_, _, _, hgo, _, _, _, _, gc2, gf2, hset2⟩ := s1'.setS nd1 (m := 2) (by rw [List.length_set, HL.out]; omega); cases hgo))
    have b6 := But.set w5 g (off + 2) (.string (pageT nPage))
    have s1'' := hset2 (pageT nPage) pageT_nPage
    generalize (w5.setCell ⟨g, off + 2, none⟩ (.string (pageT nPage))) = W6 at b6 s1'' ⊢
    have z6 := b6.size
    have z4d : W4.drew.heap.size = W4.heap.size := rfl
    replace ko := ko.butM b6 (by omega)
    replace ks := ks.butM b6 (by omega)
    replace kt := kt.butM b6 (by omega)
    replace kr := kr.butM b6 (by omega)
    replace uu := uu.but b6 (by omega)
    replace s2 := s2.keep good_Put (fun y hy => b6.block y (fun e => hdis g hgb (e ▸ hy)))
    rw [← z6] at s1'' s2
    clear hset2 gc2 gf2 s1' b6
    have o0 : World.cell? W6 ⟨w1.heap.size, 0, none⟩ = some (.int .i64 1700) := ko.cell 0
    have o1 : World.cell? W6 ⟨w1.heap.size, 1, none⟩ = some (.slice (some ⟨g, off, none⟩) (n + 2) d1) := ko.cell 1
    have o2 : World.cell? W6 ⟨w1.heap.size, 2, none⟩ = some (.slice D2 0 d2) := ko.cell 2
    have t0 : World.cell? W6 ⟨w1.heap.size + 1 + 1, 0, none⟩ = some (.int .i64 1) := kt.cell 0
    have t1 : World.cell? W6 ⟨w1.heap.size + 1 + 1, 1, none⟩ = some (.int .i64 1) := kt.cell 1
    have t2 : World.cell? W6 ⟨w1.heap.size + 1 + 1, 2, none⟩ = some (.int .i64 0) := kt.cell 2
    have t3 : World.cell? W6 ⟨w1.heap.size + 1 + 1, 3, none⟩ = some (.slice (some ⟨w1.heap.size + 1, 0, none⟩) 1 1) := kt.cell 3
    go_wp2_with (first | ((with_reducible show wpList _ _ _ ((⟨none, .store _ _ _, _, _, _, none⟩ : Oper) :: _) _ _); refine wpList_store_bk [.int .i64 1700, .slice (some ⟨g, off, none⟩) (n + 2) d1, .slice D2 0 d2, .int .i64 1, .int .i64 1, .int .i64 0, .slice (some ⟨w1.heap.size + 1, 0, none⟩) 1 1, .int .i64 0, .int .i64 0, .int .i64 0, .slice none 0 0, .slice none 0 0, .slice none 0 0] kr rfl rfl (by kernel_rfl) rfl (Nat.le_of_ble_eq_true rfl) ?_; intro W7 b7 kr7))
    replace kr7 : Bk W7 w.heap.size 31 #[.int .i64 1700, .slice (some ⟨g, off, none⟩) (n + 2) d1, .slice D2 0 d2, .int .i64 1, .int .i64 1, .int .i64 0, .slice (some ⟨w1.heap.size + 1, 0, none⟩) 1 1, .int .i64 0, .int .i64 0, .int .i64 0, .slice none 0 0, .slice none 0 0, .slice none 0 0] := kr7
    refine bodyPost_ret (results_bk2 kr7 _ _ _ Tryz.results11 rfl rfl Tryz.underlying31 rfl (by kernel_rfl)) rfl ?_
    replace ks := ks.butM b7 (by omega)
    have z7 := b7.size
    have q1 := s1''.but good_S b7 (by omega)
    have q2 := s2.but good_Put b7 (by omega)
    have q3 := so_seat (lo := w1.heap.size + 1) (hi := W7.heap.size) ks (Nat.le_refl _) (by have := ks.lt; omega)
    have hn2 : (nSect n).length = n + 2 := by unfold nSect; rw [List.length_set, List.length_set, HL.out]
    have od := asmDisk (x0 := 1700) (x1 := nSect n) (x2 := []) i0 (q1.wide good_S (lo' := w.heap.size) (by omega) (Nat.le_refl _)) (q2.wide good_Put (lo' := w.heap.size) (by omega) (Nat.le_refl _))
    have ot := asmTop (x0 := 1) (x1 := 1) (x2 := 0) (x3 := [(1, 2)]) i64o i64o i64z (q3.wide good_Seat (lo' := w.heap.size) (by omega) (Nat.le_refl _))
    have oc := asmCache (x1 := nSect n) (x2 := []) (x6 := [(1, 2)]) (x10 := []) (x11 := []) (x12 := []) (bl7 := []) (bl11 := []) (bl12 := []) od ot (own_nTop0 _ _ _) (SO.nil _ _ _) (SO.nil _ _ _)
    rw [hn2] at oc
    refine ⟨_, _, rfl, oc, ?_, uu.but b7 (by omega)⟩
    have nd4 : (bl1 ++ bl2 ++ [w1.heap.size + 1]).Nodup := by
      refine List.nodup_append.2 ⟨nd, by simp, ?_⟩
      rintro y hy z hz rfl
      obtain rfl : y = w1.heap.size + 1 := by simpa using hz
      rcases List.mem_append.1 hy with h | h
      · have := hin1 _ h; omega
      · have := hin2 _ h; omega
    simpa using nd4
theorem cs_NewCache (a : Int) (w : World) (ha : I64 a) : Calls Tryz.prog 11 #[.int .i64 a] w (RpR shCache (nCache a) (nCode a) w) := (cs0_NewCache a w ha).mono fun _ _ h => h.rp good_Cache
end Go.Proofs.YtlifhbfomgbiaaaGreatDoor
