/-
  PutTop: the program's and the reference's compute one string.
-/
import Derived.Test.YtafabcabffeikaaLi
import Derived.Test.YtafabcabffeikaaStm
import Derived.Test.YtafabcabffeikaaTo
import Derived.Test.YtafabcabffeikaaBl
import Derived.Deep.RegionHeld3
import Derived.Deep.Cut
namespace Go.Proofs.Ytafabcabffeikaa
open Go.RowKit
set_option linter.unusedVariables false
set_option linter.unusedSimpArgs false

def bodyTo (t : TTop) (k : Nat) : ByteArray := (t.2.2.2.take k).foldl (fun b s => b ++ leS s.1.toNat 1 ++ leS s.2.toNat 2) (leS t.2.1.toNat 1 ++ leS t.2.2.1.toNat 4 ++ leS (t.2.2.2.length : Int).toNat 1)
def putTop (t : TTop) : ByteArray := if topOk t = true then stamped (leS t.1.toNat 4) (bodyTo t t.2.2.2.length) 1700 else ⟨#[]⟩
theorem bodyTo_succ (t : TTop) (k : Nat) (h : k < t.2.2.2.length) : bodyTo t (k + 1) = bodyTo t k ++ leS t.2.2.2[k].1.toNat 1 ++ leS t.2.2.2[k].2.toNat 2 := by
  unfold bodyTo
  rw [List.take_succ_eq_append_getElem h, List.foldl_append]
  rfl
theorem seats_in {l : List TSeat} (h : seatsOk l = true) : l.length ≤ 64 ∧ ∀ i (hi : i < l.length), 1 ≤ l[i].1 ∧ l[i].1 ≤ 64 ∧ 2 ≤ l[i].2 ∧ l[i].2 ≤ 399 := by
  simp only [seatsOk, Bool.and_eq_true, decide_eq_true_eq, okTo, List.all_eq_true] at h
  refine ⟨h.1, fun i hi => ?_⟩
  have := h.2 i (by simpa using hi)
  simp only [okAt, Bool.and_eq_true, seatD_at l i hi, inB_t] at this
  omega
theorem fixOf {f : FuncId} (h : ∀ (n k : Nat) (w : World), n ≤ 9223372036854775807 → 1 ≤ k → k ≤ 16 → Calls Try.prog f #[.int .i64 (n : Int), .int .i64 (k : Int)] w (RetV (.string (leS n k)) w)) (n : Int) (k : Nat) (h0 : 0 ≤ n) (h1 : n ≤ 9223372036854775807) (hk1 : 1 ≤ k) (hk : k ≤ 16) :
    ∃ s : ByteArray, Hid (s = leS n.toNat k) ∧ s.size = k ∧ ∀ w : World, Calls Try.prog f #[.int .i64 n, .int .i64 (k : Int)] w (RetV (.string s) w) := by
  obtain ⟨m, rfl⟩ := Int.eq_ofNat_of_zero_le h0
  exact ⟨leS m k, by unfold Hid; rfl, leS_size _ _, fun w => h m k w (by omega) hk1 hk⟩
theorem c_countSeat (xs : List TSeat) (A : Option Addr) (c : Nat) (w : World) (h : xs.length ≤ 9223372036854775807) : Calls Try.prog 89 #[.slice A xs.length c] w fun e w' => e = .returned (.int .i64 xs.length) ∧ w = w' := by
  go_enter Try.func89, Try.ntmps89
  go_wp2
  go_ret
  exact ⟨rfl, rfl⟩

set_option maxRecDepth 100000 in
set_option maxHeartbeats 8000000 in
theorem cs_PutTop (v : Value) (x : TTop) (w : World) (h : AV shTop w v x) (hn : shTop.sz x ≤ 1048576) : Calls Try.prog 30 #[v] w (RetV (.string (putTop x)) w) := by
  have hv := h
  obtain ⟨cs, rfl, h⟩ := h
  obtain ⟨A3, c3, rfl, b0, b1, b2, b3⟩ := openTop h
  clear h
  have hl3 := b3.len_le
  have ua : Up w (w.alloc (.cells #[.int .i64 x.1, .int .i64 x.2.1, .int .i64 x.2.2.1, .slice A3 x.2.2.2.length c3] 29)) := (Up.refl _).alloc _
  have k0 : Bk (w.alloc (.cells #[.int .i64 x.1, .int .i64 x.2.1, .int .i64 x.2.2.1, .slice A3 x.2.2.2.length c3] 29)) w.heap.size 29 #[.int .i64 x.1, .int .i64 x.2.1, .int .i64 x.2.2.1, .slice A3 x.2.2.2.length c3] := Bk.new _ _ _
  go_enter Try.func30, Try.ntmps30
  go_wp2_with fail
  refine (c_specTopOk _ x _ (hv.up good_Top ua)).mono ?_
  rintro e w1 ⟨rfl, u1⟩
  have uu1 := ua.trans u1
  have k1 := k0.up u1
  cases hok : topOk x
  · have HN : Hid (putTop x = ⟨#[]⟩) := by unfold Hid; simp [putTop, hok]
    go_wp2_with fail
    go_ret
    exact ret_str HN uu1
  have HN : Hid (putTop x = stamped (leS x.1.toNat 4) (bodyTo x x.2.2.2.length) 1700) := by unfold Hid; simp [putTop, hok]
  have hso : seatsOk x.2.2.2 = true := by simp only [topOk, Bool.and_eq_true] at hok; exact hok.2
  have hb : (1 ≤ x.1 ∧ x.1 ≤ 2000000000) ∧ (1 ≤ x.2.1 ∧ x.2.1 ≤ 64) ∧ (0 ≤ x.2.2.1 ∧ x.2.2.1 ≤ 2000000000) := by simp only [topOk, Bool.and_eq_true, inB_t] at hok; exact ⟨hok.1.1.1, hok.1.1.2, hok.1.2⟩
  obtain ⟨⟨p0, p0'⟩, ⟨p1, p1'⟩, ⟨p2, p2'⟩⟩ := hb
  obtain ⟨hl64, hin⟩ := seats_in hso
  clear hok hso
  obtain ⟨s0, S0, z0, f0⟩ := fixOf c_l18Fix x.1 4 (by omega) (by omega) (by omega) (by omega)
  replace f0 : ∀ W : World, Calls Try.prog 85 #[.int .i64 (x.1), .int .i64 4] W (RetV (.string s0) W) := f0
  obtain ⟨s1, S1, z1, f1⟩ := fixOf c_l18Fix x.2.1 1 (by omega) (by omega) (by omega) (by omega)
  replace f1 : ∀ W : World, Calls Try.prog 85 #[.int .i64 (x.2.1), .int .i64 1] W (RetV (.string s1) W) := f1
  obtain ⟨s2, S2, z2, f2⟩ := fixOf c_l18Fix x.2.2.1 4 (by omega) (by omega) (by omega) (by omega)
  replace f2 : ∀ W : World, Calls Try.prog 85 #[.int .i64 (x.2.2.1), .int .i64 4] W (RetV (.string s2) W) := f2
  obtain ⟨s3, S3, z3, f3⟩ := fixOf c_l18Fix (x.2.2.2.length : Int) 1 (by omega) (by omega) (by omega) (by omega)
  replace f3 : ∀ W : World, Calls Try.prog 85 #[.int .i64 (x.2.2.2.length : Int), .int .i64 1] W (RetV (.string s3) W) := f3
  have HB0 : Hid (s1 ++ s2 ++ s3 = bodyTo x 0) := by unfold Hid bodyTo; rw [S1.out, S2.out, S3.out]; rfl
  have g1_0 : w1.cell? ⟨w.heap.size, 0, none⟩ = some (.int .i64 x.1) := k1.cell 0
  have g1_1 : w1.cell? ⟨w.heap.size, 1, none⟩ = some (.int .i64 x.2.1) := k1.cell 1
  have g1_2 : w1.cell? ⟨w.heap.size, 2, none⟩ = some (.int .i64 x.2.2.1) := k1.cell 2
  have g1_3 : w1.cell? ⟨w.heap.size, 3, none⟩ = some (.slice A3 x.2.2.2.length c3) := k1.cell 3
  have zk := k1.lt
  have t1 := fun t : UpT w1 => cell_up t g1_1
  have t2 := fun t : UpT w1 => cell_up t g1_2
  have t3 := fun t : UpT w1 => cell_up t g1_3
  go_wp2_with fail
  refine wp_region_up (by kernel_rfl) (by kernel_rfl) ?_
  repeat (go_big_quiet_step ((go_at_call 85; first | with_reducible exact up_call (f1 _) (UpT.up _) | with_reducible exact up_call (f2 _) (UpT.up _) | with_reducible exact up_call (f3 _) (UpT.up _))))
  refine wpQuiet_nil ?_
  rintro _ ⟨⟨w2, u2⟩, rfl⟩
  clear t1 t2 t3 g1_0 g1_1 g1_2 g1_3
  have k2 := k1.up u2
  have uu2 := uu1.trans u2
  have zb0 : (s1 ++ s2 ++ s3).size = 6 + 3 * 0 := by rw [ByteArray.size_append, ByteArray.size_append, z1, z2, z3]
  obtain ⟨q0, hq0⟩ : ∃ q, q = s1 ++ s2 ++ s3 := ⟨_, rfl⟩
  have HQ0 := Lib.hid hq0; clear hq0
  go_wp2_with fail
  go_loopw [3, 4] (fun v i wr => ∃ (k : Nat) (bb : ByteArray), k ≤ x.2.2.2.length ∧ i = .int .i64 k ∧ v = .string bb ∧ Hid (bb = bodyTo x k) ∧ bb.size = 6 + 3 * k ∧ Up w wr ∧ Bk wr w.heap.size 29 #[.int .i64 x.1, .int .i64 x.2.1, .int .i64 x.2.2.1, .slice A3 x.2.2.2.length c3]) (fun _ i _ => x.2.2.2.length - (intOf i).toNat)
  case atStart => exact ⟨0, s1 ++ s2 ++ s3, Nat.zero_le _, rfl, rfl, HB0, zb0, uu2, k2⟩
  case round =>
    obtain ⟨k, bb, hk, rfl, rfl, HB, zb, hu, kA⟩ := hrel
    have gA_0 : wr.cell? ⟨w.heap.size, 0, none⟩ = some (.int .i64 x.1) := kA.cell 0
    have gA_3 : wr.cell? ⟨w.heap.size, 3, none⟩ = some (.slice A3 x.2.2.2.length c3) := kA.cell 3
    by_cases hlt : k < x.2.2.2.length
    · obtain ⟨g, off, rfl, _, hgl, hc0, hc1, e0, e1, _⟩ := atSeat (b3.up good_Seat hu) hlt
      obtain ⟨i1, i2, i3, i4⟩ := hin k hlt
      obtain ⟨r1, R1, y1, h1⟩ := fixOf c_l18Fix x.2.2.2[k].1 1 (by omega) (by omega) (by omega) (by omega)
      replace h1 : ∀ W : World, Calls Try.prog 85 #[.int .i64 (x.2.2.2[k].1), .int .i64 1] W (RetV (.string r1) W) := h1
      obtain ⟨r2, R2, y2, h2⟩ := fixOf c_l18Fix x.2.2.2[k].2 2 (by omega) (by omega) (by omega) (by omega)
      replace h2 : ∀ W : World, Calls Try.prog 85 #[.int .i64 (x.2.2.2[k].2), .int .i64 2] W (RetV (.string r2) W) := h2
      have HS : Hid (bb ++ r1 ++ r2 = bodyTo x (k + 1)) := by unfold Hid; rw [bodyTo_succ x k hlt, HB.out, R1.out, R2.out]
      have ZS : Hid ((bb ++ r1 ++ r2).size = 6 + 3 * (k + 1)) := by unfold Hid; rw [ByteArray.size_append, ByteArray.size_append, zb, y1, y2]; omega
      have t3 := fun t : UpT wr => cell_up t gA_3
      have t4 := fun t : UpT wr => cell_up t hc0
      have t5 := fun t : UpT wr => cell_up t hc1
      go_wp2_with fail
      refine wp_region_up (by kernel_rfl) (by kernel_rfl) ?_
      repeat (go_big_quiet_step ((go_at_call 85; first | with_reducible exact up_call (h1 _) (UpT.up _) | with_reducible exact up_call (h2 _) (UpT.up _))))
      refine wpQuiet_nil ?_
      rintro _ ⟨⟨w3, u3⟩, rfl⟩
      go_wp2_with fail
      go_roundw
      case rel => exact ⟨k + 1, bb ++ r1 ++ r2, by omega, by go_num, rfl, HS, ZS.out, hu.trans u3, kA.up u3⟩
      case measure => simp [intOf]; omega
    · obtain rfl : k = x.2.2.2.length := by omega
      go_wp2_with fail
      refine (f0 _).mono ?_
      rintro e w3 ⟨rfl, u3⟩
      go_wp2_with fail
      refine (cs_Stamped s0 bb 1700 _ (by unfold maxLen; omega) (by omega) (by unfold maxLen; omega) (by omega) ⟨by decide, by decide⟩).mono ?_
      rintro e w4 ⟨rfl, u4⟩
      have HM : Hid (putTop x = stamped s0 bb 1700) := by unfold Hid; rw [HN.out, S0.out, HB.out]
      go_wp2_with fail
      go_ret
      exact ret_str HM ((hu.trans u3).trans u4)

set_option maxRecDepth 100000 in
set_option maxHeartbeats 8000000 in
theorem ci_PutTop (v : Value) (x : TTop) (w : World) (h : AV shTop w v x) (hn : shTop.sz x ≤ 1048576) : Calls Try.prog 31 #[v] w (RetV (.string (putTop x)) w) := by
  have hv := h
  obtain ⟨cs, rfl, h⟩ := h
  obtain ⟨A3, c3, rfl, b0, b1, b2, b3⟩ := openTop h
  clear h
  have hl3 := b3.len_le
  have ua : Up w (w.alloc (.cells #[.int .i64 x.1, .int .i64 x.2.1, .int .i64 x.2.2.1, .slice A3 x.2.2.2.length c3] 29)) := (Up.refl _).alloc _
  have k0 : Bk (w.alloc (.cells #[.int .i64 x.1, .int .i64 x.2.1, .int .i64 x.2.2.1, .slice A3 x.2.2.2.length c3] 29)) w.heap.size 29 #[.int .i64 x.1, .int .i64 x.2.1, .int .i64 x.2.2.1, .slice A3 x.2.2.2.length c3] := Bk.new _ _ _
  go_enter Try.func31, Try.ntmps31
  go_wp2_with fail
  refine (c_implTopOk _ x _ (hv.up good_Top ua)).mono ?_
  rintro e w1 ⟨rfl, u1⟩
  have uu1 := ua.trans u1
  have k1 := k0.up u1
  cases hok : topOk x
  · have HN : Hid (putTop x = ⟨#[]⟩) := by unfold Hid; simp [putTop, hok]
    go_wp2_with fail
    go_ret
    exact ret_str HN uu1
  have HN : Hid (putTop x = stamped (leS x.1.toNat 4) (bodyTo x x.2.2.2.length) 1700) := by unfold Hid; simp [putTop, hok]
  have hso : seatsOk x.2.2.2 = true := by simp only [topOk, Bool.and_eq_true] at hok; exact hok.2
  have hb : (1 ≤ x.1 ∧ x.1 ≤ 2000000000) ∧ (1 ≤ x.2.1 ∧ x.2.1 ≤ 64) ∧ (0 ≤ x.2.2.1 ∧ x.2.2.1 ≤ 2000000000) := by simp only [topOk, Bool.and_eq_true, inB_t] at hok; exact ⟨hok.1.1.1, hok.1.1.2, hok.1.2⟩
  obtain ⟨⟨p0, p0'⟩, ⟨p1, p1'⟩, ⟨p2, p2'⟩⟩ := hb
  obtain ⟨hl64, hin⟩ := seats_in hso
  clear hok hso
  obtain ⟨s0, S0, z0, f0⟩ := fixOf c_little x.1 4 (by omega) (by omega) (by omega) (by omega)
  replace f0 : ∀ W : World, Calls Try.prog 88 #[.int .i64 (x.1), .int .i64 4] W (RetV (.string s0) W) := f0
  obtain ⟨s1, S1, z1, f1⟩ := fixOf c_little x.2.1 1 (by omega) (by omega) (by omega) (by omega)
  replace f1 : ∀ W : World, Calls Try.prog 88 #[.int .i64 (x.2.1), .int .i64 1] W (RetV (.string s1) W) := f1
  obtain ⟨s2, S2, z2, f2⟩ := fixOf c_little x.2.2.1 4 (by omega) (by omega) (by omega) (by omega)
  replace f2 : ∀ W : World, Calls Try.prog 88 #[.int .i64 (x.2.2.1), .int .i64 4] W (RetV (.string s2) W) := f2
  obtain ⟨s3, S3, z3, f3⟩ := fixOf c_little (x.2.2.2.length : Int) 1 (by omega) (by omega) (by omega) (by omega)
  replace f3 : ∀ W : World, Calls Try.prog 88 #[.int .i64 (x.2.2.2.length : Int), .int .i64 1] W (RetV (.string s3) W) := f3
  have HB0 : Hid (s1 ++ s2 ++ s3 = bodyTo x 0) := by unfold Hid bodyTo; rw [S1.out, S2.out, S3.out]; rfl
  have g1_0 : w1.cell? ⟨w.heap.size, 0, none⟩ = some (.int .i64 x.1) := k1.cell 0
  have g1_1 : w1.cell? ⟨w.heap.size, 1, none⟩ = some (.int .i64 x.2.1) := k1.cell 1
  have g1_2 : w1.cell? ⟨w.heap.size, 2, none⟩ = some (.int .i64 x.2.2.1) := k1.cell 2
  have g1_3 : w1.cell? ⟨w.heap.size, 3, none⟩ = some (.slice A3 x.2.2.2.length c3) := k1.cell 3
  have zk := k1.lt
  have kb : Bk (w1.alloc (.cells #[.pointer none, .slice none 0 0] 125)) w1.heap.size 125 #[.pointer none, .slice none 0 0] := Bk.new _ _ _
  have uB : Up w1 (w1.alloc (.cells #[.pointer none, .slice none 0 0] 125)) := (Up.refl _).alloc _
  have zb0 : (s1 ++ s2 ++ s3).size = 6 + 3 * 0 := by rw [ByteArray.size_append, ByteArray.size_append, z1, z2, z3]
  have zz12 : (s1 ++ s2).size = 5 := by rw [ByteArray.size_append, z1, z2]
  have zl0 : (s1 ++ s2 ++ s3).data.toList.length = 6 := zb0
  go_wp2_with fail
  go_cut [] from 6 (fun wr => Up w wr ∧ Bk wr w.heap.size 29 #[.int .i64 x.1, .int .i64 x.2.1, .int .i64 x.2.2.1, .slice A3 x.2.2.2.length c3] ∧ Bld8 w1.heap.size w1.heap.size (s1 ++ s2 ++ s3).data.toList wr ∧ w1.heap.size ≤ wr.heap.size)
  case first =>
    have kA := (k1.up uB).drew
    have uA := (uu1.trans uB).drew
    have bA : Bld8 w1.heap.size w1.heap.size [] (w1.alloc (.cells #[.pointer none, .slice none 0 0] 125)).drew := bld_new _ _ kb
    have zA : w1.heap.size ≤ (w1.alloc (.cells #[.pointer none, .slice none 0 0] 125)).drew.heap.size := uB.size
    go_region_held3 (fun W => W.cell? ⟨w.heap.size, 1, none⟩ = some (.int .i64 x.2.1) ∧ W.cell? ⟨w.heap.size, 2, none⟩ = some (.int .i64 x.2.2.1) ∧ W.cell? ⟨w.heap.size, 3, none⟩ = some (.slice A3 x.2.2.2.length c3))
      (first | exact ⟨kA.cell 1, kA.cell 2, kA.cell 3⟩)
      (first
        | (go_at_call 88; (first | with_reducible refine (f1 _).mono ?_ | with_reducible refine (f2 _).mono ?_ | with_reducible refine (f3 _).mono ?_); rintro e w' ⟨rfl, u'⟩; replace kA := kA.up u'; replace uA := uA.trans u'; replace bA := bld_up bA u'; replace zA := Nat.le_trans zA u'.size)
        | (go_at_call 89; refine (c_countSeat x.2.2.2 A3 c3 _ hl3).mono ?_; rintro e w' ⟨rfl, rfl⟩)
        | (go_at_call 87; refine (c_WriteString _ _ [] (s1 ++ s2 ++ s3) _ bA (by rw [zb0]; simp) zA).mono ?_; rintro e w' ⟨rfl, bN, kN, oN⟩; replace kA := kA.below kN zk; replace uA := uA.below kN (by omega); replace zA := Nat.le_trans zA kN.size; simp only [List.nil_append] at bN))
    all_goals
      go_wp2_with fail
      go_meet
      case rel => exact ⟨uA, kA, bN, zA⟩
  case rest =>
    obtain ⟨uu2, k2, b2', zz2⟩ := hcut
    clear g1_0 g1_1 g1_2 g1_3
    have g2_3 : wc.cell? ⟨w.heap.size, 3, none⟩ = some (.slice A3 x.2.2.2.length c3) := k2.cell 3
    go_wp2_with fail
    clear g2_3
    go_loopw [25] (fun i wr => ∃ (k : Nat) (bb : ByteArray), k ≤ x.2.2.2.length ∧ i = .int .i64 k ∧ Hid (bb = bodyTo x k) ∧ bb.size = 6 + 3 * k ∧ Up w wr ∧ Bk wr w.heap.size 29 #[.int .i64 x.1, .int .i64 x.2.1, .int .i64 x.2.2.1, .slice A3 x.2.2.2.length c3] ∧ Bld8 w1.heap.size w1.heap.size bb.data.toList wr ∧ w1.heap.size ≤ wr.heap.size) (fun i _ => x.2.2.2.length - (intOf i).toNat)
    case atStart => exact ⟨0, s1 ++ s2 ++ s3, Nat.zero_le _, rfl, HB0, zb0, uu2, k2, b2', zz2⟩
    case round =>
      obtain ⟨k, bb, hk, rfl, HB, zb, hu, kA, bA, zA⟩ := hrel
      have gA_0 : wr.cell? ⟨w.heap.size, 0, none⟩ = some (.int .i64 x.1) := kA.cell 0
      by_cases hlt : k < x.2.2.2.length
      · obtain ⟨g, off, rfl, _, hgl, hc0, hc1, e0, e1, _⟩ := atSeat (b3.up good_Seat hu) hlt
        obtain ⟨i1, i2, i3, i4⟩ := hin k hlt
        obtain ⟨r1, R1, y1, h1⟩ := fixOf c_little x.2.2.2[k].1 1 (by omega) (by omega) (by omega) (by omega)
        replace h1 : ∀ W : World, Calls Try.prog 88 #[.int .i64 (x.2.2.2[k].1), .int .i64 1] W (RetV (.string r1) W) := h1
        obtain ⟨r2, R2, y2, h2⟩ := fixOf c_little x.2.2.2[k].2 2 (by omega) (by omega) (by omega) (by omega)
        replace h2 : ∀ W : World, Calls Try.prog 88 #[.int .i64 (x.2.2.2[k].2), .int .i64 2] W (RetV (.string r2) W) := h2
        have HS : Hid (bb ++ (r1 ++ r2) = bodyTo x (k + 1)) := by unfold Hid; rw [bodyTo_succ x k hlt, HB.out, R1.out, R2.out, ByteArray.append_assoc]
        have ZS : Hid ((bb ++ (r1 ++ r2)).size = 6 + 3 * (k + 1)) := by unfold Hid; rw [ByteArray.size_append, ByteArray.size_append, zb, y1, y2]; omega
        have y12 : (r1 ++ r2).size = 3 := by rw [ByteArray.size_append, y1, y2]
        have ybl : bb.data.toList.length = 6 + 3 * k := zb
        have HL : Hid (bb.data.toList ++ (r1 ++ r2).data.toList = (bb ++ (r1 ++ r2)).data.toList) := by unfold Hid; simp
        have uS : Up wr (wr.alloc (.cells #[.int .i64 x.2.2.2[k].1, .int .i64 x.2.2.2[k].2] 121)) := (Up.refl _).alloc _
        have zlb := bld_lt bA
        have kS := Bk.new wr 121 #[.int .i64 x.2.2.2[k].1, .int .i64 x.2.2.2[k].2]
        go_wp2_with fail
        replace kA := (kA.up uS).drew
        have uA := (hu.trans uS).drew
        replace bA := bld_up bA uS
        replace zA := Nat.le_trans zA uS.size
        replace kS := kS.drew
        have bA' : Bld8 w1.heap.size w1.heap.size bb.data.toList (wr.alloc (.cells #[.int .i64 x.2.2.2[k].1, .int .i64 x.2.2.2[k].2] 121)).drew := bld_up bA (Up.refl _).drew
        have cS : (wr.alloc (.cells #[.int .i64 x.2.2.2[k].1, .int .i64 x.2.2.2[k].2] 121)).drew.cell? ⟨wr.heap.size, 0, none⟩ = some (.int .i64 x.2.2.2[k].1) ∧ (wr.alloc (.cells #[.int .i64 x.2.2.2[k].1, .int .i64 x.2.2.2[k].2] 121)).drew.cell? ⟨wr.heap.size, 1, none⟩ = some (.int .i64 x.2.2.2[k].2) := ⟨kS.cell 0, kS.cell 1⟩
        have zA' : w1.heap.size ≤ (wr.alloc (.cells #[.int .i64 x.2.2.2[k].1, .int .i64 x.2.2.2[k].2] 121)).drew.heap.size := zA
        go_region_held3 (fun W => W.cell? ⟨wr.heap.size, 0, none⟩ = some (.int .i64 x.2.2.2[k].1) ∧ W.cell? ⟨wr.heap.size, 1, none⟩ = some (.int .i64 x.2.2.2[k].2))
          (first | exact cS | trivial)
          (first
            | (go_at_call 88; (first | with_reducible refine (h1 _).mono ?_ | with_reducible refine (h2 _).mono ?_); rintro e w' ⟨rfl, u'⟩; replace kS := kS.up u'; replace cS := And.intro (kS.cell 0) (kS.cell 1); replace kA := kA.up u'; replace uA := uA.trans u'; replace bA' := bld_up bA' u'; replace zA' := Nat.le_trans zA' u'.size)
            | (go_at_call 87; refine (c_WriteString _ _ bb.data.toList (r1 ++ r2) _ bA' (by rw [ybl, y12]; omega) zA').mono ?_; rintro e w' ⟨rfl, bN, kN, oN⟩; replace cS := And.intro ((kS.others oN (by omega) (by decide)).cell 0) ((kS.others oN (by omega) (by decide)).cell 1); replace kA := kA.below kN zk; replace uA := uA.below kN (by omega); replace zA' := Nat.le_trans zA' kN.size; rw [HL.out] at bN))
        all_goals
          go_wp2_with fail
          go_roundw
          case rel => exact ⟨k + 1, bb ++ (r1 ++ r2), by omega, by go_num, HS, ZS.out, uA, kA, bN, zA'⟩
          case measure => simp [intOf]; omega
      · obtain rfl : k = x.2.2.2.length := by omega
        go_wp2_with fail
        refine (f0 _).mono ?_
        rintro e w3 ⟨rfl, u3⟩
        go_wp2_with fail
        refine (c_BString _ _ bb.data.toList _ (bld_up bA u3) (Nat.le_trans zA u3.size)).mono ?_
        rintro e w4 ⟨rfl, kN⟩
        have e4 : Hid ((⟨bb.data.toList.toArray⟩ : ByteArray) = bb) := by unfold Hid; simp
        rw [e4.out]
        have uu4 := (hu.trans u3).below kN (by omega)
        go_wp2_with fail
        refine (ci_Stamped s0 bb 1700 _ (by unfold maxLen; omega) (by omega) (by unfold maxLen; omega) (by omega) ⟨by decide, by decide⟩).mono ?_
        rintro e w5 ⟨rfl, u5⟩
        have HM : Hid (putTop x = stamped s0 bb 1700) := by unfold Hid; rw [HN.out, S0.out, HB.out]
        go_wp2_with fail
        go_ret
        exact ret_str HM (uu4.trans u5)
end Go.Proofs.Ytafabcabffeikaa
