/-
  TopOk: the program's and the reference's compute one function of a superblock.
  Rising numbers within bounds: rising, allWithin, l00Rises.
  slices.Grow and slices.Concat at seats; small questions about seats.
  CacheOk: the program's and the reference's compute one function of a cache.
  JournalOk: the program's and the reference's compute one function of a journal.
-/
import Derived.Test.YtpjcgglhlmifdaaGreatDoorM3K
import Derived.Test.YtpjcgglhlmifdaaGreatDoorM3J
import Derived.Test.YtpjcgglhlmifdaaGreatDoorM3Le
import Derived.Deep.RegionHeld3
import Derived.Test.YtpjcgglhlmifdaaGreatDoorM3E
import Derived.Test.YtpjcgglhlmifdaaGreatDoorM3A
import Derived.Test.YtpjcgglhlmifdaaGreatDoorM3G
import Derived.Lib.AppendZeros
namespace Go.Proofs.YtpjcgglhlmifdaaGreatDoor
open Go.RowKit
set_option linter.unusedVariables false
set_option linter.unusedSimpArgs false

def seatD (l : List TSeat) (i : Nat) : TSeat := l.getD i (0, 0)
def okAt (l : List TSeat) (i : Nat) : Bool := inB (seatD l i).1 1 64 && inB (seatD l i).2 2 399 && !(l.take i).any (fun s => s.2 == (seatD l i).2) && (decide (i = 0) || decide ((seatD l (i - 1)).1 < (seatD l i).1))
def okTo (l : List TSeat) (k : Nat) : Bool := (List.range k).all (okAt l)
def seatsOk (l : List TSeat) : Bool := decide (l.length ≤ 64) && okTo l l.length
theorem seatD_at (l : List TSeat) (i : Nat) (h : i < l.length) : seatD l i = l[i] := by simp [seatD, List.getD, h]
theorem okTo_succ (l : List TSeat) (k : Nat) : okTo l (k + 1) = (okTo l k && okAt l k) := by simp [okTo, List.range_succ, List.all_append]
theorem okTo_bad (l : List TSeat) (k n : Nat) (h : k < n) (hb : okAt l k = false) : okTo l n = false := by
  simp only [okTo, List.all_eq_false]
  exact ⟨k, by simpa using h, by simp [hb]⟩
theorem seats_bad (l : List TSeat) (k : Nat) (h : k < l.length) (hb : okAt l k = false) : seatsOk l = false := by
  simp [seatsOk, okTo_bad l k _ h hb]
theorem any_take_snoc {α : Type} (p : α → Bool) (l : List α) (k : Nat) (h : k < l.length) : (l.take (k + 1)).any p = ((l.take k).any p || p l[k]) := by
  rw [List.take_succ_eq_append_getElem h, List.any_append]; simp

theorem zero_bool (w : World) : (zeroValue 4).run Tryz.prog w = .ok (.bool false) w := by kernel_rfl
set_option maxRecDepth 100000 in
set_option maxHeartbeats 8000000 in
theorem c_seatsOk (xs : List TSeat) (A : Option Addr) (c : Nat) (w : World) (h : SRW shSeat w A c xs) : Calls Tryz.prog 166 #[.slice A xs.length c] w (BoolP (seatsOk xs) w) := by
  have hlen := h.len_le
  have hcap : xs.length ≤ maxLen := Nat.le_trans h.1 h.2.1
  have hmm := @run_makeMap Tryz.prog
  go_enter Tryz.func166, Tryz.ntmps166
  go_wp2_with fail
  go_loopw [9] (fun i wr => ∃ k : Nat, k ≤ xs.length ∧ i = .int .i64 k ∧ Hid (okTo xs k = true) ∧ Up w wr ∧ ISet Tryz.prog 2 4 wr w.heap.size k (fun j => (xs.take k).any (fun s => s.2 == j))) (fun i _ => xs.length - (intOf i).toNat)
  case atStart => exact ⟨0, Nat.zero_le _, rfl, rfl, (Up.refl _).alloc _, by simpa using ISet.made w⟩
  case round =>
    obtain ⟨k, hk, rfl, HT, hu, hset⟩ := hrel
    by_cases hlt : k < xs.length
    · obtain ⟨g, off, rfl, _, hgl, hc0, hc1, e0, e1, _⟩ := atSeat (h.up good_Seat hu) hlt
      obtain ⟨e0l, e0h⟩ := e0
      have hgr : g < wr.heap.size := hgl
      have hsl := hset.lt
      have u1 : Up w (wr.alloc (.cells #[.int .i64 xs[k].1, .int .i64 xs[k].2] 225)) := hu.alloc _
      have kb := Bk.new wr 225 #[.int .i64 xs[k].1, .int .i64 xs[k].2]
      have s0 : (wr.alloc (.cells #[.int .i64 xs[k].1, .int .i64 xs[k].2] 225)).cell? ⟨wr.heap.size, 0, none⟩ = some (.int .i64 xs[k].1) := kb.cell 0
      have s1 : (wr.alloc (.cells #[.int .i64 xs[k].1, .int .i64 xs[k].2] 225)).cell? ⟨wr.heap.size, 1, none⟩ = some (.int .i64 xs[k].2) := kb.cell 1
      have hs1 := hset.up ((Up.refl wr).alloc (.cells #[.int .i64 xs[k].1, .int .i64 xs[k].2] 225))
      have hat : okAt xs k = (inB xs[k].1 1 64 && inB xs[k].2 2 399 && !(xs.take k).any (fun s => s.2 == xs[k].2) && (decide (k = 0) || decide ((seatD xs (k - 1)).1 < xs[k].1))) := by unfold okAt; rw [seatD_at _ _ hlt]
      have HAT := Lib.hid hat; clear hat
      have hlook : ∀ n, (Instr.lookup 117 (.map (some w.heap.size)) (.int .i64 xs[k].2) false).run Tryz.prog ((wr.alloc (.cells #[.int .i64 xs[k].1, .int .i64 xs[k].2] 225)).drewN n) = .ok (.bool ((xs.take k).any (fun s => s.2 == xs[k].2))) ((wr.alloc (.cells #[.int .i64 xs[k].1, .int .i64 xs[k].2] 225)).drewN n) := fun n => (hs1.drewN n).look Tryz.underlying2 Tryz.underlying117 Tryz.underlying4 (zero_bool _) e1
      cases q1 : inB xs[k].1 1 64
      · have HN := Lib.hid (seats_bad xs k hlt (by rw [HAT.out, q1]; rfl))
        go_wp2_with fail
        go_quiet ((go_at_call 89; exact Calls.quiet_of_same ((within_any _ _ _ _).mono (fun _ _ h => ⟨h.1, h.2.symm⟩))))
        go_wp2_with fail
        go_ret
        exact bool_end HN (u1.drewN _)
      cases q2 : inB xs[k].2 2 399
      · have HN := Lib.hid (seats_bad xs k hlt (by rw [HAT.out, q2]; simp))
        go_wp2_with fail
        go_quiet ((go_at_call 89; exact Calls.quiet_of_same ((within_any _ _ _ _).mono (fun _ _ h => ⟨h.1, h.2.symm⟩))))
        go_wp2_with fail
        go_ret
        exact bool_end HN (u1.drewN _)
      cases q3 : (xs.take k).any (fun s => s.2 == xs[k].2)
      rotate_left
      · have HN := Lib.hid (seats_bad xs k hlt (by rw [HAT.out, q3]; simp))
        rw [q3] at hlook
        go_wp2_with fail
        go_quiet ((go_at_call 89; exact Calls.quiet_of_same ((within_any _ _ _ _).mono (fun _ _ h => ⟨h.1, h.2.symm⟩))))
        go_wp2_with fail
        go_ret
        exact bool_end HN (u1.drewN _)
      rw [q3] at hlook
      by_cases hk0 : k = 0
      · subst hk0
        have hc0' : wr.cell? ⟨g, off, none⟩ = some (.int .i64 xs[0].1) := by simpa using hc0
        have hc1' : wr.cell? ⟨g, off + 1, none⟩ = some (.int .i64 xs[0].2) := by simpa using hc1
        have HN : Hid (okTo xs (0 + 1) = true) := by unfold Hid; rw [okTo_succ, HT.out, HAT.out, q1, q2, q3]; simp
        go_wp2_with fail
        go_quiet ((go_at_call 89; exact Calls.quiet_of_same ((within_any _ _ _ _).mono (fun _ _ h => ⟨h.1, h.2.symm⟩))))
        obtain ⟨w2, hrun, hs2, hgrow⟩ := (hs1.drewN nq).add Tryz.underlying2 Tryz.underlying117 Tryz.underlying4 (by omega) e1 true
        go_wp2_with fail
        go_roundw
        case rel =>
          refine ⟨_, by omega, by go_num, HN, (u1.drewN nq).only (Only.of_grown hgrow) (by simp), ?_⟩
          obtain ⟨D, h1, h2⟩ := hs2
          refine ⟨D, h1, fun i hi => ?_⟩
          rw [h2 i hi]
          dsimp only
          rw [any_take_snoc _ _ _ hlt]
          by_cases e : i = (xs[0]'hlt).2
          · simp [e]
          · have e' : ((xs[0]'hlt).2 == i) = false := by simpa using fun h => e (Eq.symm h)
            rw [if_neg e, e', Bool.or_false]
        case measure => simp [intOf]; omega
      · obtain ⟨m, rfl⟩ : ∃ m, k = m + 1 := ⟨k - 1, by omega⟩
        obtain ⟨g', off', hgo, _, hgl', hp0, _, p0, _, _⟩ := atSeat (h.up good_Seat hu) (show m < xs.length by omega)
        injection hgo with hgo
        injection hgo with hg' ho' _
        subst hg' ho'
        have hp0' : (wr.alloc (.cells #[.int .i64 xs[m+1].1, .int .i64 xs[m+1].2] 225)).cell? ⟨g, off + m * 2, none⟩ = some (.int .i64 xs[m].1) := by rw [World.cell?_of_block (w := wr) (Below.heap_alloc wr _ g hgr)]; exact hp0
        have hsd : seatD xs (m + 1 - 1) = xs[m] := seatD_at _ _ (by omega)
        obtain ⟨pl, ph⟩ := p0
        by_cases hord : xs[m].1 < xs[m+1].1
        · have HN : Hid (okTo xs (m + 1 + 1) = true) := by unfold Hid; rw [okTo_succ, HT.out, HAT.out, q1, q2, q3, hsd]; simp [hord]
          clear hsd
          go_wp2_with fail
          go_quiet ((go_at_call 89; exact Calls.quiet_of_same ((within_any _ _ _ _).mono (fun _ _ h => ⟨h.1, h.2.symm⟩))))
          obtain ⟨w2, hrun, hs2, hgrow⟩ := (hs1.drewN nq).add Tryz.underlying2 Tryz.underlying117 Tryz.underlying4 (by omega) e1 true
          go_wp2_with fail
          go_roundw
          case rel =>
            refine ⟨_, by omega, by go_num, HN, (u1.drewN nq).only (Only.of_grown hgrow) (by simp), ?_⟩
            obtain ⟨D, h1, h2⟩ := hs2
            refine ⟨D, h1, fun i hi => ?_⟩
            rw [h2 i hi]
            dsimp only
            rw [any_take_snoc _ _ _ hlt]
            by_cases e : i = (xs[m + 1]'hlt).2
            · simp [e]
            · have e' : ((xs[m + 1]'hlt).2 == i) = false := by simpa using fun h => e (Eq.symm h)
              rw [if_neg e, e', Bool.or_false]
          case measure => simp [intOf]; omega
        · have HN := Lib.hid (seats_bad xs (m + 1) hlt (by rw [HAT.out, hsd]; simp [hord]))
          clear hsd
          go_wp2_with fail
          go_quiet ((go_at_call 89; exact Calls.quiet_of_same ((within_any _ _ _ _).mono (fun _ _ h => ⟨h.1, h.2.symm⟩))))
          go_wp2_with fail
          go_ret
          exact bool_end HN (u1.drewN _)
    · have HS : Hid (seatsOk xs = decide ((xs.length : Int) ≤ 64)) := by
        unfold Hid seatsOk
        have e0 : k = xs.length := by omega
        have e : okTo xs xs.length = true := by rw [← e0]; exact HT.out
        rw [e, Bool.and_true]
        by_cases hq : xs.length ≤ 64
        · rw [decide_eq_true hq, decide_eq_true (by omega)]
        · rw [decide_eq_false hq, decide_eq_false (by omega)]
      go_wp2_with fail
      go_ret
      exact bool_end HS hu

set_option maxRecDepth 100000 in
set_option maxHeartbeats 8000000 in
theorem c_l18Seats (xs : List TSeat) (A : Option Addr) (c : Nat) (w : World) (h : SRW shSeat w A c xs) : Calls Tryz.prog 158 #[.slice A xs.length c] w (BoolP (seatsOk xs) w) := by
  have hlen := h.len_le
  go_enter Tryz.func158, Tryz.ntmps158
  go_wp2_with fail
  go_loopw [3] (fun i wr => ∃ k : Nat, k ≤ xs.length ∧ k ≤ 65 ∧ i = .int .i64 k ∧ Hid (okTo xs k = true) ∧ Up w wr) (fun i _ => xs.length - (intOf i).toNat)
  case atStart => exact ⟨0, Nat.zero_le _, by omega, rfl, rfl, Up.refl _⟩
  case round =>
    obtain ⟨k, hk, hk5, rfl, HT, hu⟩ := hrel
    by_cases hlt : k < xs.length
    · by_cases h64 : k ≤ 64
      · obtain ⟨g, off, rfl, _, hgl, hc0, hc1, e0, e1, _⟩ := atSeat (h.up good_Seat hu) hlt
        obtain ⟨e0l, e0h⟩ := e0
        have hat : okAt xs k = (inB xs[k].1 1 64 && inB xs[k].2 2 399 && !(xs.take k).any (fun s => s.2 == xs[k].2) && (decide (k = 0) || decide ((seatD xs (k - 1)).1 < xs[k].1))) := by unfold okAt; rw [seatD_at _ _ hlt]
        have HAT := Lib.hid hat; clear hat
        cases q1 : inB xs[k].1 1 64
        · have HN := Lib.hid (seats_bad xs k hlt (by rw [HAT.out, q1]; rfl))
          go_wp2_with fail
          go_quiet ((go_at_call 88; exact Calls.quiet_of_same ((in_any _ _ _ _).mono (fun _ _ h => ⟨h.1, h.2.symm⟩))))
          go_wp2_with fail
          go_ret
          exact bool_end HN (hu.drewN _)
        by_cases hk0 : k = 0
        · subst hk0
          have hc0' : wr.cell? ⟨g, off, none⟩ = some (.int .i64 xs[0].1) := by simpa using hc0
          have hc1' : wr.cell? ⟨g, off + 1, none⟩ = some (.int .i64 xs[0].2) := by simpa using hc1
          cases q2 : inB xs[0].2 2 399
          · have HN := Lib.hid (seats_bad xs 0 hlt (by rw [HAT.out, q2]; simp))
            go_wp2_with fail
            go_quiet ((go_at_call 88; exact Calls.quiet_of_same ((in_any _ _ _ _).mono (fun _ _ h => ⟨h.1, h.2.symm⟩))))
            go_wp2_with fail
            go_ret
            exact bool_end HN (hu.drewN _)
          have HN : Hid (okTo xs (0 + 1) = true) := by unfold Hid; rw [okTo_succ, HT.out, HAT.out, q1, q2]; simp
          go_wp2_with fail
          go_quiet ((go_at_call 88; exact Calls.quiet_of_same ((in_any _ _ _ _).mono (fun _ _ h => ⟨h.1, h.2.symm⟩))))
          obtain ⟨wo, hwo⟩ : ∃ wo : World, wo = wr.drewN nq := ⟨_, rfl⟩
          have huo : Up w wo := by rw [hwo]; exact hu.drewN _
          rw [← hwo]
          go_wp2_with fail
          go_loopw [4] (fun i wr => i = .int .i64 0 ∧ Up w wr) (fun i _ => 0)
          case atStart => exact ⟨rfl, huo⟩
          case round =>
            obtain ⟨rfl, hu2⟩ := hrel
            go_wp2_with fail
            go_roundw
            case rel => exact ⟨0 + 1, by omega, by omega, by go_num, HN, hu2⟩
            case measure => simp [intOf]; omega
        · obtain ⟨m, rfl⟩ : ∃ m, k = m + 1 := ⟨k - 1, by omega⟩
          obtain ⟨g', off', hgo, _, hgl', hp0, _, p0, _, _⟩ := atSeat (h.up good_Seat hu) (show m < xs.length by omega)
          injection hgo with hgo
          injection hgo with hg' ho' _
          subst hg' ho'
          have hsd : seatD xs (m + 1 - 1) = xs[m] := seatD_at _ _ (by omega)
          obtain ⟨pl, ph⟩ := p0
          have hi0 : (0 : Int) ≤ (m : Int) + 1 := by omega
          have hwm : IntKind.i64.wrap (m : Int) = (m : Int) := IntWalk.i64_in _ (by omega)
          have hm0 : (0 : Int) ≤ (m : Int) := by omega
          have hm1 : (m : Int) < (xs.length : Int) := by omega
          have hi1 : (m : Int) + 1 < (xs.length : Int) := by omega
          by_cases hord : xs[m].1 < xs[m+1].1
          rotate_left
          · have HN := Lib.hid (seats_bad xs (m + 1) hlt (by rw [HAT.out, hsd]; simp [hord]))
            clear hsd
            go_wp2_with fail
            go_quiet ((go_at_call 88; exact Calls.quiet_of_same ((in_any _ _ _ _).mono (fun _ _ h => ⟨h.1, h.2.symm⟩))))
            go_wp2_with fail
            go_ret
            exact bool_end HN (hu.drewN _)
          cases q2 : inB xs[m+1].2 2 399
          · have HN := Lib.hid (seats_bad xs (m + 1) hlt (by rw [HAT.out, q2]; simp))
            clear hsd
            go_wp2_with fail
            go_quiet ((go_at_call 88; exact Calls.quiet_of_same ((in_any _ _ _ _).mono (fun _ _ h => ⟨h.1, h.2.symm⟩))))
            go_wp2_with fail
            go_ret
            exact bool_end HN (hu.drewN _)
          have HQ : Hid (okTo xs (m + 1 + 1) = !(xs.take (m + 1)).any (fun s => s.2 == xs[m+1].2)) := by unfold Hid; rw [okTo_succ, HT.out, HAT.out, q1, q2, hsd]; simp [hord]
          clear hsd
          go_wp2_with fail
          go_quiet ((go_at_call 88; exact Calls.quiet_of_same ((in_any _ _ _ _).mono (fun _ _ h => ⟨h.1, h.2.symm⟩))))
          obtain ⟨wo, hwo⟩ : ∃ wo : World, wo = wr.drewN nq := ⟨_, rfl⟩
          have huo : Up w wo := by rw [hwo]; exact hu.drewN _
          rw [← hwo]
          go_wp2_with fail
          go_loopw [4] (fun i wr => ∃ j : Nat, j ≤ m + 1 ∧ i = .int .i64 j ∧ Hid ((xs.take j).any (fun s => s.2 == xs[m+1].2) = false) ∧ Up w wr) (fun i _ => m + 1 - (intOf i).toNat)
          case atStart => exact ⟨0, Nat.zero_le _, rfl, rfl, huo⟩
          case round =>
            obtain ⟨j, hj, rfl, HA, hu2⟩ := hrel
            by_cases hjl : j < m + 1
            · obtain ⟨g1, off1, hgo, _, _, _, hj1, _, j1, _⟩ := atSeat (h.up good_Seat hu2) (show j < xs.length by omega)
              injection hgo with hgo
              injection hgo with hg' ho' _
              subst hg' ho'
              obtain ⟨g1, off1, hgo, _, _, _, hi1, _, i1, _⟩ := atSeat (h.up good_Seat hu2) hlt
              injection hgo with hgo
              injection hgo with hg' ho' _
              subst hg' ho'
              by_cases hq : xs[j].2 = xs[m+1].2
              · have HN := Lib.hid (seats_bad xs (m + 1) hlt (by rw [HAT.out, any_at (fun s : TSeat => s.2 == xs[m+1].2) (xs.take (m + 1)) j (by simp; omega) (by simp [hq])]; simp))
                rw [hq] at hj1
                go_wp2_with fail
                go_quiet (fail)
                go_wp2_with fail
                go_ret
                exact bool_end HN (hu2.drewN _)
              · have HN : Hid ((xs.take (j + 1)).any (fun s => s.2 == xs[m+1].2) = false) := by unfold Hid; rw [any_take_snoc _ _ _ (by omega), HA.out]; simp [hq]
                have hqq : (xs[j].2 == xs[m+1].2) = false := by simp [hq]
                go_wp2_with fail
                go_quiet (fail)
                go_wp2_with fail
                go_roundw
                case rel => exact ⟨j + 1, by omega, by go_num, HN, hu2.drewN _⟩
                case measure => simp [intOf]; omega
            · have HN : Hid (okTo xs (m + 1 + 1) = true) := by
                unfold Hid
                have e : j = m + 1 := by omega
                subst e
                rw [HQ.out, HA.out]; rfl
              go_wp2_with fail
              go_roundw
              case rel => exact ⟨m + 1 + 1, by omega, by omega, by go_num, HN, hu2⟩
              case measure => simp [intOf]; omega
      · have HS : Hid (seatsOk xs = decide ((xs.length : Int) ≤ 64)) := by
          unfold Hid seatsOk
          rw [decide_eq_false (show ¬ xs.length ≤ 64 by omega), decide_eq_false (by omega)]
          rfl
        go_wp2_with fail
        go_ret
        exact bool_end HS hu
    · have HS : Hid (seatsOk xs = decide ((xs.length : Int) ≤ 64)) := by
        unfold Hid seatsOk
        have e0 : k = xs.length := by omega
        have e : okTo xs xs.length = true := by rw [← e0]; exact HT.out
        rw [e, Bool.and_true]
        by_cases hq : xs.length ≤ 64
        · rw [decide_eq_true hq, decide_eq_true (by omega)]
        · rw [decide_eq_false hq, decide_eq_false (by omega)]
      go_wp2_with fail
      go_ret
      exact bool_end HS hu

def topOk (t : TTop) : Bool := inB t.1 1 2000000000 && inB t.2.1 1 64 && inB t.2.2.1 0 2000000000 && seatsOk t.2.2.2
set_option maxRecDepth 100000 in
set_option maxHeartbeats 4000000 in
theorem c_implTopOk (v : Value) (x : TTop) (w : World) (h : AV shTop w v x) : Calls Tryz.prog 165 #[v] w (BoolP (topOk x) w) := by
  obtain ⟨cs, rfl, h⟩ := h
  obtain ⟨x0, x1, x2, x3⟩ := x
  have ho := openTop h
  dsimp only at ho
  obtain ⟨A3, c3, rfl, b0, b1, b2, b3⟩ := ho
  have u0 : Up w (w.alloc (.cells #[.int .i64 x0, .int .i64 x1, .int .i64 x2, .slice A3 x3.length c3] 73)) := (Up.refl _).alloc _
  cases q0 : inB x0 1 2000000000
  · have HN : Hid (topOk (x0, x1, x2, x3) = false) := by unfold Hid topOk; simp [q0]
    go_enter Tryz.func165, Tryz.ntmps165
    go_wp2_with (go_at_call 89; refine (within_any _ _ _ _).mono ?_; rintro e w' ⟨rfl, rfl⟩)
    go_ret
    exact bool_end HN u0
  cases q1 : inB x1 1 64
  · have HN : Hid (topOk (x0, x1, x2, x3) = false) := by unfold Hid topOk; simp [q1]
    go_enter Tryz.func165, Tryz.ntmps165
    go_wp2_with (go_at_call 89; refine (within_any _ _ _ _).mono ?_; rintro e w' ⟨rfl, rfl⟩)
    go_ret
    exact bool_end HN u0
  cases q2 : inB x2 0 2000000000
  · have HN : Hid (topOk (x0, x1, x2, x3) = false) := by unfold Hid topOk; simp [q2]
    go_enter Tryz.func165, Tryz.ntmps165
    go_wp2_with (go_at_call 89; refine (within_any _ _ _ _).mono ?_; rintro e w' ⟨rfl, rfl⟩)
    go_ret
    exact bool_end HN u0
  have HN : Hid (topOk (x0, x1, x2, x3) = seatsOk x3) := by unfold Hid topOk; simp [q0, q1, q2]
  go_enter Tryz.func165, Tryz.ntmps165
  go_wp2_with (go_at_call 89; refine (within_any _ _ _ _).mono ?_; rintro e w' ⟨rfl, rfl⟩)
  refine (c_seatsOk _ _ _ _ (b3.up good_Seat u0)).mono ?_
  rintro e w1 ⟨rfl, u1⟩
  go_wp2_with fail
  go_ret
  exact bool_end HN (u0.trans u1)
set_option maxRecDepth 100000 in
set_option maxHeartbeats 4000000 in
theorem c_specTopOk (v : Value) (x : TTop) (w : World) (h : AV shTop w v x) : Calls Tryz.prog 157 #[v] w (BoolP (topOk x) w) := by
  obtain ⟨cs, rfl, h⟩ := h
  obtain ⟨x0, x1, x2, x3⟩ := x
  have ho := openTop h
  dsimp only at ho
  obtain ⟨A3, c3, rfl, b0, b1, b2, b3⟩ := ho
  have u0 : Up w (w.alloc (.cells #[.int .i64 x0, .int .i64 x1, .int .i64 x2, .slice A3 x3.length c3] 73)) := (Up.refl _).alloc _
  cases q0 : inB x0 1 2000000000
  · have HN : Hid (topOk (x0, x1, x2, x3) = false) := by unfold Hid topOk; simp [q0]
    go_enter Tryz.func157, Tryz.ntmps157
    go_wp2_with (go_at_call 88; refine (in_any _ _ _ _).mono ?_; rintro e w' ⟨rfl, rfl⟩)
    go_ret
    exact bool_end HN u0
  cases q1 : inB x1 1 64
  · have HN : Hid (topOk (x0, x1, x2, x3) = false) := by unfold Hid topOk; simp [q1]
    go_enter Tryz.func157, Tryz.ntmps157
    go_wp2_with (go_at_call 88; refine (in_any _ _ _ _).mono ?_; rintro e w' ⟨rfl, rfl⟩)
    go_ret
    exact bool_end HN u0
  cases q2 : inB x2 0 2000000000
  · have HN : Hid (topOk (x0, x1, x2, x3) = false) := by unfold Hid topOk; simp [q2]
    go_enter Tryz.func157, Tryz.ntmps157
    go_wp2_with (go_at_call 88; refine (in_any _ _ _ _).mono ?_; rintro e w' ⟨rfl, rfl⟩)
    go_ret
    exact bool_end HN u0
  have HN : Hid (topOk (x0, x1, x2, x3) = seatsOk x3) := by unfold Hid topOk; simp [q0, q1, q2]
  go_enter Tryz.func157, Tryz.ntmps157
  go_wp2_with (go_at_call 88; refine (in_any _ _ _ _).mono ?_; rintro e w' ⟨rfl, rfl⟩)
  refine (c_l18Seats _ _ _ _ (b3.up good_Seat u0)).mono ?_
  rintro e w1 ⟨rfl, u1⟩
  go_wp2_with fail
  go_ret
  exact bool_end HN (u0.trans u1)

end Go.Proofs.YtpjcgglhlmifdaaGreatDoor

namespace Go.Proofs.YtpjcgglhlmifdaaGreatDoor
open Go.RowKit
set_option linter.unusedVariables false
set_option linter.unusedSimpArgs false

def upAt (l : List Int) (i : Nat) : Bool := decide (i = 0) || decide (l.getD (i - 1) 0 < l.getD i 0)
def risTo (l : List Int) (k : Nat) : Bool := (List.range k).all (upAt l)
def risB (l : List Int) : Bool := risTo l l.length
def notIn (lo hi n : Int) : Bool := !inB n lo hi
def allIn (l : List Int) (lo hi : Int) : Bool := !l.any (notIn lo hi)
theorem risTo_succ (l : List Int) (k : Nat) : risTo l (k + 1) = (risTo l k && upAt l k) := by simp [risTo, List.range_succ, List.all_append]
theorem ris_bad (l : List Int) (k : Nat) (h : k < l.length) (hb : upAt l k = false) : risB l = false := by
  simp only [risB, risTo, List.all_eq_false]
  exact ⟨k, by simpa using h, by simp [hb]⟩
theorem getD_atR (l : List Int) (i : Nat) (h : i < l.length) : l.getD i 0 = l[i] := by simp [List.getD, h]
theorem upAt_succ (l : List Int) (m : Nat) (h : m + 1 < l.length) : upAt l (m + 1) = decide (l[m] < l[m + 1]) := by
  unfold upAt
  rw [getD_atR l (m + 1) h, Nat.add_sub_cancel, getD_atR l m (by omega)]
  simp

set_option maxRecDepth 100000 in
set_option maxHeartbeats 4000000 in
theorem c_rising (xs : List Int) (A : Option Addr) (c : Nat) (w : World) (h : SRW shI w A c xs) : Calls Tryz.prog 172 #[.slice A xs.length c] w (BoolP (risB xs) w) := by
  have hlen := h.len_le
  go_enter Tryz.func172, Tryz.ntmps172
  go_wp2_with fail
  go_loopw [3] (fun i wr => ∃ k : Nat, k + 1 ≤ xs.length + 1 ∧ i = .int .i64 ((k : Int) + 1) ∧ Hid (risTo xs (min (k + 1) xs.length) = true) ∧ Up w wr) (fun i _ => xs.length + 1 - (intOf i).toNat)
  case atStart => exact ⟨0, by omega, rfl, by
    unfold Hid
    rcases Nat.eq_zero_or_pos xs.length with h | h
    · rw [h]; rfl
    · rw [Nat.min_eq_left (by omega)]; rfl, Up.refl _⟩
  case round =>
    obtain ⟨m, hm, rfl, HT, hu⟩ := hrel
    by_cases hlt : m + 1 < xs.length
    · obtain ⟨g, off, rfl, _, _, hc1, e1⟩ := (h.up good_I hu).at_I hlt
      obtain ⟨g', off', hgo, _, _, hc0, e0⟩ := (h.up good_I hu).at_I (show m < xs.length by omega)
      injection hgo with hgo
      injection hgo with hg' ho' _
      subst hg' ho'
      have hi0 : (0 : Int) ≤ (m : Int) + 1 := by omega
      have hi1 : (m : Int) + 1 < (xs.length : Int) := by omega
      have hwm : IntKind.i64.wrap (m : Int) = (m : Int) := IntWalk.i64_in _ (by omega)
      have hm0 : (0 : Int) ≤ (m : Int) := by omega
      have hm1 : (m : Int) < (xs.length : Int) := by omega
      have HU := Lib.hid (upAt_succ xs m hlt)
      by_cases hq : xs[m] < xs[m+1]
      · have HN : Hid (risTo xs (min (m + 1 + 1) xs.length) = true) := by
          unfold Hid
          have := HT.out
          rw [Nat.min_eq_left (by omega)] at this
          rw [Nat.min_eq_left (by omega), risTo_succ, this, HU.out]
          simpa using hq
        have hq' : decide (xs[m+1] ≤ xs[m]) = false := by simpa using hq
        go_wp2_with fail
        go_quiet (fail)
        go_wp2_with fail
        go_roundw
        case rel => exact ⟨m + 1, by omega, by go_num, HN, hu.drewN _⟩
        case measure => simp [intOf]; omega
      · have HN := Lib.hid (ris_bad xs (m + 1) hlt (by rw [HU.out]; simpa using hq))
        have hq' : decide (xs[m+1] ≤ xs[m]) = true := by simpa using hq
        go_wp2_with fail
        go_quiet (fail)
        go_wp2_with fail
        go_ret
        exact bool_end HN (hu.drewN _)
    · have HN : Hid (risB xs = true) := by
        unfold Hid risB
        have := HT.out
        rwa [Nat.min_eq_right (by omega)] at this
      go_wp2_with fail
      go_ret
      exact bool_end HN hu

theorem c_allWithin1 (B1 B2 : Nat) (lo hi n : Int) (w : World) (h1 : w.cell? ⟨B1, 0, none⟩ = some (.int .i64 lo)) (h2 : w.cell? ⟨B2, 0, none⟩ = some (.int .i64 hi)) :
    Calls Tryz.prog 208 #[.int .i64 n, .pointer (some ⟨B1, 0, none⟩), .pointer (some ⟨B2, 0, none⟩)] w (BoolP (notIn lo hi n) w) := by
  go_enter Tryz.func208, Tryz.ntmps208
  go_wp2_with (go_at_call 89; refine (within_any _ _ _ _).mono ?_; rintro e w' ⟨rfl, rfl⟩)
  go_ret
  exact ⟨rfl, Up.refl _⟩
set_option maxRecDepth 100000 in
theorem eg_allWithin1 : ∀ args w, (callFunc 208 args).run Tryz.prog w = .ok (.enter 208 args) w := enters_of Tryz.func208 (by kernel_rfl) rfl
theorem app_three (a b c : Value) : #[a] ++ #[b, c] = #[a, b, c] := by simp
set_option maxRecDepth 100000 in
set_option maxHeartbeats 4000000 in
theorem c_allWithin (xs : List Int) (A : Option Addr) (c : Nat) (lo hi : Int) (w : World) (h : SRW shI w A c xs) : Calls Tryz.prog 173 #[.slice A xs.length c, .int .i64 lo, .int .i64 hi] w (BoolP (allIn xs lo hi) w) := by
  have u0 : Up w ((w.alloc (.cells #[.int .i64 lo] 2)).alloc (.cells #[.int .i64 hi] 2)) := ((Up.refl _).alloc _).alloc _
  have k1 : Bk ((w.alloc (.cells #[.int .i64 lo] 2)).alloc (.cells #[.int .i64 hi] 2)) w.heap.size 2 #[.int .i64 lo] := (Bk.new _ _ _).alloc _
  have k2 : Bk ((w.alloc (.cells #[.int .i64 lo] 2)).alloc (.cells #[.int .i64 hi] 2)) (w.heap.size + 1) 2 #[.int .i64 hi] := by simpa using Bk.new (w.alloc (.cells #[.int .i64 lo] 2)) 2 #[.int .i64 hi]
  have hf : ∀ (W : World) (n : Int), n ∈ xs → Up ((w.alloc (.cells #[.int .i64 lo] 2)).alloc (.cells #[.int .i64 hi] 2)) W → I64 n → Calls Tryz.prog 208 (#[.int .i64 n] ++ #[.pointer (some ⟨w.heap.size, 0, none⟩), .pointer (some ⟨w.heap.size + 1, 0, none⟩)]) W (BoolP (notIn lo hi n) W) := fun W n _ hW _ => by
    rw [app_three]
    exact c_allWithin1 _ _ lo hi n W ((k1.up hW).cell 0) ((k2.up hW).cell 0)
  go_enter Tryz.func173, Tryz.ntmps173
  go_wp2_with fail
  refine (c_ContainsFuncInt64 208 _ eg_allWithin1 (notIn lo hi) _ _ xs _ (h.up good_I u0) hf).mono ?_
  rintro e w1 ⟨rfl, u1⟩
  go_wp2_with fail
  go_ret
  exact ⟨rfl, u0.trans u1⟩

theorem rises_bad1 (xs : List Int) (lo hi : Int) (k : Nat) (h : k < xs.length) (hb : inB xs[k] lo hi = false) : (risB xs && allIn xs lo hi) = false := by
  have : xs.any (notIn lo hi) = true := List.any_eq_true.2 ⟨_, List.getElem_mem h, by simp [notIn, hb]⟩
  simp [allIn, this]
theorem rises_bad2 (xs : List Int) (lo hi : Int) (k : Nat) (h : k < xs.length) (hb : upAt xs k = false) : (risB xs && allIn xs lo hi) = false := by
  rw [ris_bad xs k h hb]; rfl
set_option maxRecDepth 100000 in
set_option maxHeartbeats 4000000 in
theorem c_l00Rises (xs : List Int) (A : Option Addr) (c : Nat) (lo hi : Int) (w : World) (h : SRW shI w A c xs) : Calls Tryz.prog 159 #[.slice A xs.length c, .int .i64 lo, .int .i64 hi] w (BoolP (risB xs && allIn xs lo hi) w) := by
  have hlen := h.len_le
  go_enter Tryz.func159, Tryz.ntmps159
  go_wp2_with fail
  go_loopw [7] (fun i wr => ∃ k : Nat, k ≤ xs.length ∧ i = .int .i64 k ∧ Hid (risTo xs k = true ∧ (xs.take k).any (notIn lo hi) = false) ∧ Up w wr) (fun i _ => xs.length - (intOf i).toNat)
  case atStart => exact ⟨0, Nat.zero_le _, rfl, ⟨rfl, rfl⟩, Up.refl _⟩
  case round =>
    obtain ⟨k, hk, rfl, HT, hu⟩ := hrel
    by_cases hlt : k < xs.length
    · obtain ⟨g, off, rfl, _, _, hc1, e1⟩ := (h.up good_I hu).at_I hlt
      cases q1 : inB xs[k] lo hi
      · have HN := Lib.hid (rises_bad1 xs lo hi k hlt q1)
        go_wp2_with fail
        go_quiet ((go_at_call 88; exact Calls.quiet_of_same ((in_any _ _ _ _).mono (fun _ _ h => ⟨h.1, h.2.symm⟩))))
        go_wp2_with fail
        go_ret
        exact bool_end HN (hu.drewN _)
      have HA : Hid ((xs.take (k + 1)).any (notIn lo hi) = false) := by unfold Hid; rw [any_take_succ _ xs k hlt, HT.out.2]; simp [notIn, q1]
      by_cases hk0 : k = 0
      · subst hk0
        have hc1' : wr.cell? ⟨g, off, none⟩ = some (.int .i64 xs[0]) := by simpa using hc1
        have HN : Hid (risTo xs (0 + 1) = true ∧ (xs.take (0 + 1)).any (notIn lo hi) = false) := ⟨rfl, HA.out⟩
        go_wp2_with fail
        go_quiet ((go_at_call 88; exact Calls.quiet_of_same ((in_any _ _ _ _).mono (fun _ _ h => ⟨h.1, h.2.symm⟩))))
        go_wp2_with fail
        go_roundw
        case rel => exact ⟨0 + 1, by omega, by go_num, HN, hu.drewN _⟩
        case measure => simp [intOf]; omega
      · obtain ⟨m, rfl⟩ : ∃ m, k = m + 1 := ⟨k - 1, by omega⟩
        obtain ⟨g', off', hgo, _, _, hc0, e0⟩ := (h.up good_I hu).at_I (show m < xs.length by omega)
        injection hgo with hgo
        injection hgo with hg' ho' _
        subst hg' ho'
        have hi0 : (0 : Int) ≤ (m : Int) + 1 := by omega
        have hi1 : (m : Int) + 1 < (xs.length : Int) := by omega
        have hwm : IntKind.i64.wrap (m : Int) = (m : Int) := IntWalk.i64_in _ (by omega)
        have hm0 : (0 : Int) ≤ (m : Int) := by omega
        have hm1 : (m : Int) < (xs.length : Int) := by omega
        have HU := Lib.hid (upAt_succ xs m hlt)
        by_cases hq : xs[m] < xs[m+1]
        · have HN : Hid (risTo xs (m + 1 + 1) = true ∧ (xs.take (m + 1 + 1)).any (notIn lo hi) = false) := by
            refine ⟨?_, HA.out⟩
            rw [risTo_succ, HT.out.1, HU.out]
            simpa using hq
          have hq' : decide (xs[m+1] ≤ xs[m]) = false := by simpa using hq
          go_wp2_with fail
          go_quiet ((go_at_call 88; exact Calls.quiet_of_same ((in_any _ _ _ _).mono (fun _ _ h => ⟨h.1, h.2.symm⟩))))
          go_wp2_with fail
          go_roundw
          case rel => exact ⟨m + 1 + 1, by omega, by go_num, HN, hu.drewN _⟩
          case measure => simp [intOf]; omega
        · have HN := Lib.hid (rises_bad2 xs lo hi (m + 1) hlt (by rw [HU.out]; simpa using hq))
          have hq' : decide (xs[m+1] ≤ xs[m]) = true := by simpa using hq
          go_wp2_with fail
          go_quiet ((go_at_call 88; exact Calls.quiet_of_same ((in_any _ _ _ _).mono (fun _ _ h => ⟨h.1, h.2.symm⟩))))
          go_wp2_with fail
          go_ret
          exact bool_end HN (hu.drewN _)
    · have HN : Hid ((risB xs && allIn xs lo hi) = true) := by
        unfold Hid
        have e : k = xs.length := by omega
        have h1 := HT.out
        subst e
        rw [List.take_length] at h1
        simp [risB, allIn, h1.1, h1.2]
      go_wp2_with fail
      go_ret
      exact bool_end HN hu
end Go.Proofs.YtpjcgglhlmifdaaGreatDoor

namespace Go.Proofs.YtpjcgglhlmifdaaGreatDoor
open Go.RowKit
set_option linter.unusedVariables false
set_option linter.unusedSimpArgs false

theorem flat_Seat : Flat shSeat := flat_P flat_I flat_I
theorem cinfo_SeatS : (Tryz.prog.info? 225).map (fun i => (i.zero, i.size, i.bytes)) = some (some (.agg #[.int .i64 0, .int .i64 0]), 2, 16) := by kernel_rfl

set_option maxRecDepth 100000 in
set_option maxHeartbeats 4000000 in
theorem c_GrowSeat (n : Nat) (w : World) (hn : n ≤ 10000000) : Calls Tryz.prog 205 #[.slice none 0 0, .int .i64 (n : Int)] w fun e w' => ∃ D d bl, e = .returned (.slice D 0 d) ∧ SO shSeat w' w.heap.size w'.heap.size D d [] bl ∧ bl.Nodup ∧ Up w w' := by
  obtain ⟨i2, hi2, hz0, hz1, hz2⟩ := info_parts cinfo_SeatS
  rcases Nat.eq_zero_or_pos n with h0 | h0
  · subst h0
    go_enter Tryz.func205, Tryz.ntmps205
    go_wp2_with fail
    go_ret
    exact ⟨none, 0, [], rfl, SO.nil _ _ _, by simp, Up.refl _⟩
  · have hr : ∀ ty, (Builtin.append_ #[71, 3] ty #[.slice none 0 0, .int .i64 (n : Int)]).run Tryz.prog w = _ := fun ty => Lib.run_append_nil_zeros (P := Tryz.prog) w 71 3 ty 225 i2 _ .i64 .i64 Tryz.underlying71 Tryz.underlying3 hi2 hz0 n h0 (by rw [hz1]; omega) (by omega) (by rw [hz2]; omega)
    have hge := grownCap_ge w n 0 225
    have hcm : grownCap w n 0 225 ≤ maxLen := grownCap_le_maxLen w n 0 _ (by unfold maxLen; omega)
    have hcm' := hcm
    unfold maxLen at hcm'
    have hpos : (0 : Int) < (n : Int) := by omega
    have hu : Up w (w.drew.alloc (.cells (Builtin.zeroCells (Value.cells (.agg #[.int .i64 0, .int .i64 0])) n ++ Builtin.zeroCells (Value.cells (.agg #[.int .i64 0, .int .i64 0])) (grownCap w n 0 225 - n)) 225)) := (Up.refl w).drew.alloc _
    have hso : SO shSeat (w.drew.alloc (.cells (Builtin.zeroCells (Value.cells (.agg #[.int .i64 0, .int .i64 0])) n ++ Builtin.zeroCells (Value.cells (.agg #[.int .i64 0, .int .i64 0])) (grownCap w n 0 225 - n)) 225)) w.heap.size (w.drew.alloc (.cells (Builtin.zeroCells (Value.cells (.agg #[.int .i64 0, .int .i64 0])) n ++ Builtin.zeroCells (Value.cells (.agg #[.int .i64 0, .int .i64 0])) (grownCap w n 0 225 - n)) 225)).heap.size (some ⟨w.heap.size, 0, none⟩) (grownCap w n 0 225) [] [w.heap.size] := by
      refine ⟨Nat.zero_le _, hcm, .inr ⟨w.heap.size, 0, _, 225, [], rfl, Nat.le_refl _, by simp, heap_alloc_new w.drew _, ?_, rfl, rfl, fun i hi => absurd hi (by simp)⟩⟩
      rw [Array.size_append, size_zeroCells, size_zeroCells, ← Nat.add_mul, Nat.zero_add]
      exact Nat.mul_le_mul (by omega) (by decide)
    obtain ⟨W, hW⟩ : ∃ W, W = w.drew.alloc (.cells (Builtin.zeroCells (Value.cells (.agg #[.int .i64 0, .int .i64 0])) n ++ Builtin.zeroCells (Value.cells (.agg #[.int .i64 0, .int .i64 0])) (grownCap w n 0 225 - n)) 225) := ⟨_, rfl⟩
    rw [← hW] at hr hu hso
    clear hW
    obtain ⟨G, hG⟩ : ∃ G, G = grownCap w n 0 225 := ⟨_, rfl⟩
    rw [← hG] at hr hso hcm' hge
    clear hG hcm
    go_enter Tryz.func205, Tryz.ntmps205
    go_wp2_with (first | (at_builtin; refine Lib.wpList_append_run _ rfl _ _ _ _ rfl _ _ rfl rfl _ _ (hr _) ?_))
    go_ret
    exact ⟨some ⟨w.heap.size, 0, none⟩, G, [w.heap.size], rfl, hso, by simp, hu⟩

/-- The source of an append that is a slice of flat elements. -/
theorem src_flat {α : Type} {s : Sh α} (hg : Good s) (hf : Flat s) {P : Program} {W : World} {lo : Nat} {t e : TypeId} (ht : P.underlying t = some (.slice e)) {n : Nat} (hn : n = s.size) {A : Option Addr} {c : Nat} {xs : List α} (h : SRW s W A c xs) :
    ∃ news, Src P n t (.slice A xs.length c) xs.length news W ∧ Rowed s W lo W.heap.size news xs (List.replicate xs.length []) := by
  rcases Nat.eq_zero_or_pos xs.length with h0 | hp
  · obtain rfl := List.eq_nil_of_length_eq_zero h0
    refine ⟨[], ?_, ⟨rfl, by simp, fun i hi => absurd hi (by simp)⟩⟩
    cases A with
    | none => exact Src.ofNil W ht c
    | some a => exact Src.ofSlice W ht a 0 c [] (by simp) (fun j u hu => by simp at hu) (by simp)
  · obtain ⟨g, off, rfl, _, _, h3⟩ := h.2.2 hp
    obtain ⟨news, hr, hc⟩ := Rowed.flat (lo := lo) (hi := W.heap.size) hg hf h3
    exact ⟨news, Src.ofSlice W ht _ _ _ news (by rw [hr.2.1, hn]) hc (hr.ones hg), hr⟩
theorem flat_nil (n : Nat) : (List.replicate n ([] : List Nat)).flatten = [] := by induction n with
  | zero => rfl
  | succ n ih => simp [List.replicate_succ]

set_option maxRecDepth 100000 in
set_option maxHeartbeats 8000000 in
theorem c_Concat3Seat (xs ys zs : List TSeat) (A1 A2 A3 : Option Addr) (c1 c2 c3 B : Nat) (t : TypeId) (w : World) (h1 : SRW shSeat w A1 c1 xs) (h2 : SRW shSeat w A2 c2 ys) (h3 : SRW shSeat w A3 c3 zs) (hB : Bk w B t #[.slice A1 xs.length c1, .slice A2 ys.length c2, .slice A3 zs.length c3])
    (n1 : xs.length ≤ 1048576) (n2 : ys.length ≤ 1048576) (n3 : zs.length ≤ 1048576) :
    Calls Tryz.prog 167 #[.slice (some ⟨B, 0, none⟩) 3 3] w (ToL shSeat (xs ++ ys ++ zs) w) := by
  obtain ⟨i2, hi2, hz0, hz1, hz2⟩ := info_parts cinfo_SeatS
  have g0 : w.cell? ⟨B, 0, none⟩ = some (.slice A1 xs.length c1) := hB.cell 0
  have g1 : w.cell? ⟨B, 1, none⟩ = some (.slice A2 ys.length c2) := hB.cell 1
  have g2 : w.cell? ⟨B, 2, none⟩ = some (.slice A3 zs.length c3) := hB.cell 2
  go_enter Tryz.func167, Tryz.ntmps167
  go_wp2_with fail
  go_loopw [3, 11] (fun s i wr => w = wr ∧ ((s = .int .i64 0 ∧ i = .int .i64 0) ∨ (s = .int .i64 xs.length ∧ i = .int .i64 1) ∨ (s = .int .i64 ((xs.length : Int) + ys.length) ∧ i = .int .i64 2) ∨ (s = .int .i64 ((xs.length : Int) + ys.length + zs.length) ∧ i = .int .i64 3))) (fun _ i _ => 3 - (intOf i).toNat)
  case atStart => exact ⟨by first | trivial | rfl, .inl ⟨rfl, rfl⟩⟩
  case round =>
    obtain ⟨rfl, hc⟩ := hrel
    rcases hc with ⟨rfl, rfl⟩ | ⟨rfl, rfl⟩ | ⟨rfl, rfl⟩ | ⟨rfl, rfl⟩
    · have hq : ¬ ((xs.length : Int) < 0) := by omega
      go_wp2_with fail
      go_roundw
      case rel => exact ⟨by first | trivial | rfl, .inr (.inl ⟨by go_num, rfl⟩)⟩
      case measure => simp [intOf]
    · have hq : ¬ ((xs.length : Int) + ys.length < 0) := by omega
      go_wp2_with fail
      go_roundw
      case rel => exact ⟨by first | trivial | rfl, .inr (.inr (.inl ⟨by go_num, rfl⟩))⟩
      case measure => simp [intOf]
    · have hq : ¬ ((xs.length : Int) + ys.length + zs.length < 0) := by omega
      go_wp2_with fail
      go_roundw
      case rel => exact ⟨by first | trivial | rfl, .inr (.inr (.inr ⟨by go_num, rfl⟩))⟩
      case measure => simp [intOf]
    · have hs : ((xs.length : Int) + ys.length + zs.length) = ((xs.length + ys.length + zs.length : Nat) : Int) := by omega
      rw [hs]
      clear hs
      go_wp2_with fail
      refine (c_GrowSeat (xs.length + ys.length + zs.length) _ (by omega)).mono ?_
      rintro e w1 ⟨D, d, bl, rfl, so, nd, u1⟩
      have kB := hB.up u1
      go_wp2_with fail
      go_loopw [6, 27] (fun v i wr => ∃ (done : List TSeat) (D : Option Addr) (d : Nat) (bl : List Nat), v = .slice D done.length d ∧ SO shSeat wr w.heap.size wr.heap.size D d done bl ∧ bl.Nodup ∧ Up w wr ∧ (([] = done ∧ i = .int .i64 0) ∨ (xs = done ∧ i = .int .i64 1) ∨ (xs ++ ys = done ∧ i = .int .i64 2) ∨ (xs ++ ys ++ zs = done ∧ i = .int .i64 3))) (fun _ i _ => 3 - (intOf i).toNat)
      case atStart => exact ⟨[], D, d, bl, rfl, so, nd, u1, .inl ⟨rfl, rfl⟩⟩
      case round =>
        clear so nd u1 kB
        obtain ⟨done, D, d, bl, rfl, so, nd, uq, hc⟩ := hrel
        have kq := hB.up uq
        have hlo := uq.size
        rcases hc with ⟨hd, rfl⟩ | ⟨hd, rfl⟩ | ⟨hd, rfl⟩ | ⟨rfl, rfl⟩
        · have hdl : done.length ≤ 2097152 := by rw [← hd]; simp
          have HD := Lib.hid hd; clear hd
          have gq : wr.cell? ⟨B, 0, none⟩ = some (.slice A1 xs.length c1) := kq.cell 0
          obtain ⟨news, hsrc, hrow⟩ := src_flat (lo := w.heap.size) good_Seat flat_Seat (P := Tryz.prog) (W := wr) (n := i2.size) Tryz.underlying71 hz1 (h1.up good_Seat uq)
          have hbb : (done.length + xs.length) * i2.bytes ≤ 140737488355328 := by rw [hz2]; omega
          have hmm : done.length + xs.length ≤ maxLen := by unfold maxLen; omega
          go_wp2_with (first
            | (at_builtin
               refine wpList_app good_Seat rfl _ _ _ _ 225 rfl i2 _ Tryz.underlying71 hi2 hz0 hz1 (by rfl) (lo := w.heap.size) (xs := done) (ys := xs) (bl := bl) (bs := List.replicate xs.length []) (news := news) rfl rfl so (by rw [flat_nil]; simpa using nd) hsrc hrow hlo hbb hmm ?_
               intro D2 d2 bl2 w2 hap
               obtain ⟨so2, nd2, mem2, on2⟩ := hap))
          go_roundw
          case rel => exact ⟨done ++ xs, D2, d2, bl2, by rw [List.length_append], so2, nd2, uq.only on2 (fun y hy => (so.in_ good_Seat y hy).1), .inr (.inl ⟨by rw [← HD.out]; simp, rfl⟩)⟩
          case measure => simp [intOf]
        · have hdl : done.length ≤ 2097152 := by rw [← hd]; (try simp); omega
          have HD := Lib.hid hd; clear hd
          have gq : wr.cell? ⟨B, 1, none⟩ = some (.slice A2 ys.length c2) := kq.cell 1
          obtain ⟨news, hsrc, hrow⟩ := src_flat (lo := w.heap.size) good_Seat flat_Seat (P := Tryz.prog) (W := wr) (n := i2.size) Tryz.underlying71 hz1 (h2.up good_Seat uq)
          have hbb : (done.length + ys.length) * i2.bytes ≤ 140737488355328 := by rw [hz2]; omega
          have hmm : done.length + ys.length ≤ maxLen := by unfold maxLen; omega
          go_wp2_with (first
            | (at_builtin
               refine wpList_app good_Seat rfl _ _ _ _ 225 rfl i2 _ Tryz.underlying71 hi2 hz0 hz1 (by rfl) (lo := w.heap.size) (xs := done) (ys := ys) (bl := bl) (bs := List.replicate ys.length []) (news := news) rfl rfl so (by rw [flat_nil]; simpa using nd) hsrc hrow hlo hbb hmm ?_
               intro D2 d2 bl2 w2 hap
               obtain ⟨so2, nd2, mem2, on2⟩ := hap))
          go_roundw
          case rel => exact ⟨done ++ ys, D2, d2, bl2, by rw [List.length_append], so2, nd2, uq.only on2 (fun y hy => (so.in_ good_Seat y hy).1), .inr (.inr (.inl ⟨by rw [← HD.out], rfl⟩))⟩
          case measure => simp [intOf]
        · have hdl : done.length ≤ 2097152 := by rw [← hd]; (try simp); omega
          have HD := Lib.hid hd; clear hd
          have gq : wr.cell? ⟨B, 2, none⟩ = some (.slice A3 zs.length c3) := kq.cell 2
          obtain ⟨news, hsrc, hrow⟩ := src_flat (lo := w.heap.size) good_Seat flat_Seat (P := Tryz.prog) (W := wr) (n := i2.size) Tryz.underlying71 hz1 (h3.up good_Seat uq)
          have hbb : (done.length + zs.length) * i2.bytes ≤ 140737488355328 := by rw [hz2]; omega
          have hmm : done.length + zs.length ≤ maxLen := by unfold maxLen; omega
          go_wp2_with (first
            | (at_builtin
               refine wpList_app good_Seat rfl _ _ _ _ 225 rfl i2 _ Tryz.underlying71 hi2 hz0 hz1 (by rfl) (lo := w.heap.size) (xs := done) (ys := zs) (bl := bl) (bs := List.replicate zs.length []) (news := news) rfl rfl so (by rw [flat_nil]; simpa using nd) hsrc hrow hlo hbb hmm ?_
               intro D2 d2 bl2 w2 hap
               obtain ⟨so2, nd2, mem2, on2⟩ := hap))
          go_roundw
          case rel => exact ⟨done ++ zs, D2, d2, bl2, by rw [List.length_append], so2, nd2, uq.only on2 (fun y hy => (so.in_ good_Seat y hy).1), .inr (.inr (.inr ⟨by rw [← HD.out], rfl⟩))⟩
          case measure => simp [intOf]
        · go_wp2_with fail
          go_ret
          exact ⟨D, d, bl, rfl, so, nd, uq⟩

/-! ### Questions about seats -/
def hasS (l : List TSeat) (n : Int) : Bool := l.any (fun s => s.2 == n)
def zeroT (t : TTop) : Bool := (t.1 == 0) && (t.2.1 == 0) && (t.2.2.1 == 0) && t.2.2.2.isEmpty

theorem c_hasSlot1 (B : Nat) (v : Value) (s : TSeat) (n : Int) (w : World) (h : AV shSeat w v s) (hB : w.cell? ⟨B, 0, none⟩ = some (.int .i64 n)) : Calls Tryz.prog 207 #[v, .pointer (some ⟨B, 0, none⟩)] w (BoolP (s.2 == n) w) := by
  obtain ⟨cs, rfl, h⟩ := h
  obtain ⟨s0, s1⟩ := s
  have ho := openSeat h
  dsimp only at ho ⊢
  obtain ⟨rfl, b0, b1⟩ := ho
  have hBl := cell_lt hB
  go_enter Tryz.func207, Tryz.ntmps207
  go_wp2_with fail
  go_ret
  exact ⟨rfl, (Up.refl _).alloc _⟩
set_option maxRecDepth 100000 in
theorem eg_hasSlot1 : ∀ args w, (callFunc 207 args).run Tryz.prog w = .ok (.enter 207 args) w := enters_of Tryz.func207 (by kernel_rfl) rfl
set_option maxRecDepth 100000 in
set_option maxHeartbeats 4000000 in
theorem c_hasSlot (xs : List TSeat) (A : Option Addr) (c : Nat) (n : Int) (w : World) (h : SRW shSeat w A c xs) : Calls Tryz.prog 171 #[.slice A xs.length c, .int .i64 n] w (BoolP (hasS xs n) w) := by
  have u0 : Up w (w.alloc (.cells #[.int .i64 n] 2)) := (Up.refl _).alloc _
  have k1 : Bk (w.alloc (.cells #[.int .i64 n] 2)) w.heap.size 2 #[.int .i64 n] := Bk.new _ _ _
  have hf : ∀ (W : World) (v : Value) (s : TSeat), s ∈ xs → Up (w.alloc (.cells #[.int .i64 n] 2)) W → AV shSeat W v s → Calls Tryz.prog 207 (#[v] ++ #[.pointer (some ⟨w.heap.size, 0, none⟩)]) W (BoolP (s.2 == n) W) := fun W v s _ hW hav => by
    rw [app_two]
    exact c_hasSlot1 _ v s n W hav ((k1.up hW).cell 0)
  go_enter Tryz.func171, Tryz.ntmps171
  go_wp2_with fail
  refine (c_ContainsFuncSeat 207 _ eg_hasSlot1 (fun s => s.2 == n) _ _ xs _ (h.up good_Seat u0) hf).mono ?_
  rintro e w1 ⟨rfl, u1⟩
  go_wp2_with fail
  go_ret
  exact ⟨rfl, u0.trans u1⟩

set_option maxRecDepth 100000 in
set_option maxHeartbeats 4000000 in
theorem c_l18Uses (xs : List TSeat) (A : Option Addr) (c : Nat) (n : Int) (w : World) (h : SRW shSeat w A c xs) : Calls Tryz.prog 160 #[.slice A xs.length c, .int .i64 n] w (BoolP (hasS xs n) w) := by
  have hlen := h.len_le
  go_enter Tryz.func160, Tryz.ntmps160
  go_wp2_with fail
  go_loopw [5] (fun i wr => ∃ k : Nat, k ≤ xs.length ∧ i = .int .i64 k ∧ Hid ((xs.take k).any (fun s => s.2 == n) = false) ∧ Up w wr) (fun i _ => xs.length - (intOf i).toNat)
  case atStart => exact ⟨0, Nat.zero_le _, rfl, rfl, Up.refl _⟩
  case round =>
    obtain ⟨k, hk, rfl, HT, hu⟩ := hrel
    by_cases hlt : k < xs.length
    · obtain ⟨g, off, rfl, _, hgl, hc0, hc1, e0, e1, _⟩ := atSeat (h.up good_Seat hu) hlt
      cases hq : (xs[k].2 == n)
      · have HN : Hid ((xs.take (k + 1)).any (fun s => s.2 == n) = false) := by unfold Hid; rw [any_take_succ _ xs k hlt, HT.out, hq]; rfl
        go_wp2_with fail
        go_roundw
        case rel => exact ⟨k + 1, by omega, by go_num, HN, hu⟩
        case measure => simp [intOf]; omega
      · have HN : Hid (hasS xs n = true) := any_at (fun s : TSeat => s.2 == n) xs k hlt hq
        go_wp2_with fail
        go_ret
        exact bool_end HN hu
    · have HN : Hid (hasS xs n = false) := any_all _ xs k HT.out (by omega)
      go_wp2_with fail
      go_ret
      exact bool_end HN hu

def belowS (l : List TSeat) (n : Int) : Bool := !l.any (fun s => decide (n ≤ s.2))
set_option maxRecDepth 100000 in
set_option maxHeartbeats 4000000 in
theorem c_l18Below (xs : List TSeat) (A : Option Addr) (c : Nat) (n : Int) (w : World) (h : SRW shSeat w A c xs) : Calls Tryz.prog 161 #[.slice A xs.length c, .int .i64 n] w (BoolP (belowS xs n) w) := by
  have hlen := h.len_le
  go_enter Tryz.func161, Tryz.ntmps161
  go_wp2_with fail
  go_loopw [5] (fun i wr => ∃ k : Nat, k ≤ xs.length ∧ i = .int .i64 k ∧ Hid ((xs.take k).any (fun s => decide (n ≤ s.2)) = false) ∧ Up w wr) (fun i _ => xs.length - (intOf i).toNat)
  case atStart => exact ⟨0, Nat.zero_le _, rfl, rfl, Up.refl _⟩
  case round =>
    obtain ⟨k, hk, rfl, HT, hu⟩ := hrel
    by_cases hlt : k < xs.length
    · obtain ⟨g, off, rfl, _, hgl, hc0, hc1, e0, e1, _⟩ := atSeat (h.up good_Seat hu) hlt
      by_cases hq : n ≤ xs[k].2
      · have HN : Hid (belowS xs n = false) := by unfold Hid belowS; rw [any_at (fun s : TSeat => decide (n ≤ s.2)) xs k hlt (by simpa using hq)]; rfl
        go_wp2_with fail
        go_ret
        exact bool_end HN hu
      · have HN : Hid ((xs.take (k + 1)).any (fun s => decide (n ≤ s.2)) = false) := by unfold Hid; rw [any_take_succ _ xs k hlt, HT.out]; simpa using hq
        have hq' : decide (n ≤ xs[k].2) = false := by simpa using hq
        go_wp2_with fail
        go_roundw
        case rel => exact ⟨k + 1, by omega, by go_num, HN, hu⟩
        case measure => simp [intOf]; omega
    · have HN : Hid (belowS xs n = true) := by unfold Hid belowS; rw [any_all _ xs k HT.out (by omega)]; rfl
      go_wp2_with fail
      go_ret
      exact bool_end HN hu

set_option maxRecDepth 100000 in
set_option maxHeartbeats 4000000 in
theorem c_l18Zero (v : Value) (x : TTop) (w : World) (h : AV shTop w v x) : Calls Tryz.prog 115 #[v] w (BoolP (zeroT x) w) := by
  obtain ⟨cs, rfl, h⟩ := h
  obtain ⟨x0, x1, x2, x3⟩ := x
  have ho := openTop h
  dsimp only at ho
  obtain ⟨A3, c3, rfl, b0, b1, b2, b3⟩ := ho
  have hl := b3.len_le
  have u0 : Up w (w.alloc (.cells #[.int .i64 x0, .int .i64 x1, .int .i64 x2, .slice A3 x3.length c3] 73)) := (Up.refl _).alloc _
  have he : x3.isEmpty = ((x3.length : Int) == 0) := by cases x3 <;> simp <;> omega
  have HN : Hid (zeroT (x0, x1, x2, x3) = ((x0 == 0) && (x1 == 0) && (x2 == 0) && ((x3.length : Int) == 0))) := by unfold Hid zeroT; rw [← he]
  clear he
  cases q0 : (x0 == 0)
  · rw [q0] at HN
    go_enter Tryz.func115, Tryz.ntmps115
    go_wp2_with fail
    go_ret
    exact bool_end HN u0
  cases q1 : (x1 == 0)
  · rw [q0, q1] at HN
    go_enter Tryz.func115, Tryz.ntmps115
    go_wp2_with fail
    go_ret
    exact bool_end HN u0
  cases q2 : (x2 == 0)
  · rw [q0, q1, q2] at HN
    go_enter Tryz.func115, Tryz.ntmps115
    go_wp2_with fail
    go_ret
    exact bool_end HN u0
  rw [q0, q1, q2] at HN
  go_enter Tryz.func115, Tryz.ntmps115
  go_wp2_with fail
  go_ret
  exact bool_end HN u0

set_option maxHeartbeats 1000000 in
theorem c_sameTop (v u : Value) (x y : TTop) (w : World) (h : AV shTop w v x) (k : AV shTop w u y) :
    Calls Tryz.prog 175 #[v, u] w (EqP (x = y) w) := by
  obtain ⟨cs, rfl, h⟩ := h
  obtain ⟨x0, x1, x2, x3⟩ := x
  have ho := openTop h
  try dsimp only at ho
  obtain ⟨A3, c3, rfl, b0, b1, b2, b3⟩ := ho
  obtain ⟨ds, rfl, k⟩ := k
  obtain ⟨y0, y1, y2, y3⟩ := y
  have ko := openTop k
  try dsimp only at ko
  obtain ⟨B3, d3, rfl, e0, e1, e2, e3⟩ := ko
  have kx0 : Bk ((w.alloc (.cells #[.int .i64 x0, .int .i64 x1, .int .i64 x2, .slice A3 x3.length c3] 73)).alloc (.cells #[.int .i64 y0, .int .i64 y1, .int .i64 y2, .slice B3 y3.length d3] 73)) w.heap.size 73 #[.int .i64 x0, .int .i64 x1, .int .i64 x2, .slice A3 x3.length c3] := (Bk.new _ _ _).alloc _
  have ky0 : Bk ((w.alloc (.cells #[.int .i64 x0, .int .i64 x1, .int .i64 x2, .slice A3 x3.length c3] 73)).alloc (.cells #[.int .i64 y0, .int .i64 y1, .int .i64 y2, .slice B3 y3.length d3] 73)) (w.heap.size + 1) 73 #[.int .i64 y0, .int .i64 y1, .int .i64 y2, .slice B3 y3.length d3] := by simpa using Bk.new (w.alloc (.cells #[.int .i64 x0, .int .i64 x1, .int .i64 x2, .slice A3 x3.length c3] 73)) 73 #[.int .i64 y0, .int .i64 y1, .int .i64 y2, .slice B3 y3.length d3]
  have uu0 : Up w ((w.alloc (.cells #[.int .i64 x0, .int .i64 x1, .int .i64 x2, .slice A3 x3.length c3] 73)).alloc (.cells #[.int .i64 y0, .int .i64 y1, .int .i64 y2, .slice B3 y3.length d3] 73)) := ((Up.refl _).alloc _).alloc _
  by_cases e_0 : ¬ x0 = y0
  · have hx : (x0 == y0) = false := by simp [e_0]
    have HE : Hid (¬ (x0, x1, x2, x3) = (y0, y1, y2, y3)) := by unfold Hid; intro hh; (try simp only [Prod.mk.injEq] at hh); exact e_0 (by simp [hh])
    clear e_0
    go_enter Tryz.func175, Tryz.ntmps175
    go_wp2_with fail
    go_ret
    exact EqP.f HE.out uu0
  replace e_0 := Decidable.of_not_not e_0
  subst e_0
  by_cases e_1 : ¬ x1 = y1
  · have hx : (x1 == y1) = false := by simp [e_1]
    have HE : Hid (¬ (x0, x1, x2, x3) = (x0, y1, y2, y3)) := by unfold Hid; intro hh; (try simp only [Prod.mk.injEq] at hh); exact e_1 (by simp [hh])
    clear e_1
    go_enter Tryz.func175, Tryz.ntmps175
    go_wp2_with fail
    go_ret
    exact EqP.f HE.out uu0
  replace e_1 := Decidable.of_not_not e_1
  subst e_1
  by_cases e_2 : ¬ x2 = y2
  · have hx : (x2 == y2) = false := by simp [e_2]
    have HE : Hid (¬ (x0, x1, x2, x3) = (x0, x1, y2, y3)) := by unfold Hid; intro hh; (try simp only [Prod.mk.injEq] at hh); exact e_2 (by simp [hh])
    clear e_2
    go_enter Tryz.func175, Tryz.ntmps175
    go_wp2_with fail
    go_ret
    exact EqP.f HE.out uu0
  replace e_2 := Decidable.of_not_not e_2
  subst e_2
  go_enter Tryz.func175, Tryz.ntmps175
  go_wp2_with fail
  refine (c_slEqSeat _ _ _ _ _ _ _ (b3.up good_Seat uu0) (e3.up good_Seat uu0)).mono ?_
  rintro r w1 ⟨bb, rfl, hbb, u1⟩
  have uu1 := uu0.trans u1
  have kx1 := kx0.up u1
  have ky1 := ky0.up u1
  clear u1
  rcases eqb_cases hbb with ⟨rfl, e_3⟩ | ⟨rfl, e_3⟩
  · clear hbb
    have HE : Hid (¬ (x0, x1, x2, x3) = (x0, x1, x2, y3)) := by unfold Hid; intro hh; (try simp only [Prod.mk.injEq] at hh); exact e_3 (by simp [hh])
    clear e_3
    go_wp2_with fail
    go_ret
    exact EqP.f HE.out uu1
  clear hbb
  subst e_3
  go_wp2_with fail
  go_ret
  exact EqP.t (by simp) uu1



theorem zeroT_iff (x : TTop) : x = (0, 0, 0, []) ↔ zeroT x = true := by
  obtain ⟨x0, x1, x2, x3⟩ := x
  simp [zeroT, and_assoc]
set_option maxRecDepth 100000 in
set_option maxHeartbeats 4000000 in
theorem c_isZeroTop (v : Value) (x : TTop) (w : World) (h : AV shTop w v x) : Calls Tryz.prog 121 #[v] w (BoolP (zeroT x) w) := by
  have hv := h
  obtain ⟨cs, rfl, h⟩ := h
  obtain ⟨A3, c3, rfl, b0, b1, b2, b3⟩ := openTop h
  have u0 : Up w (w.alloc (.cells #[.int .i64 x.1, .int .i64 x.2.1, .int .i64 x.2.2.1, .slice A3 x.2.2.2.length c3] 73)) := (Up.refl _).alloc _
  go_enter Tryz.func121, Tryz.ntmps121
  go_wp2_with fail
  refine (c_sameTop _ _ x (0, 0, 0, []) _ (hv.up good_Top u0) ⟨_, rfl, mkTop (x := (0, 0, 0, [])) (A3 := none) (c3 := 0) ⟨by decide, by decide⟩ ⟨by decide, by decide⟩ ⟨by decide, by decide⟩ (SR.nil _ _ _)⟩).mono ?_
  rintro e w1 ⟨b, rfl, hb, u1⟩
  rw [zeroT_iff] at hb
  have HB : Hid (zeroT x = b) := by unfold Hid; cases b <;> cases hz : zeroT x <;> simp_all
  clear hb
  go_wp2_with fail
  go_ret
  exact bool_end HB (u0.trans u1)
end Go.Proofs.YtpjcgglhlmifdaaGreatDoor

namespace Go.Proofs.YtpjcgglhlmifdaaGreatDoor
open Go.RowKit
set_option linter.unusedVariables false
set_option linter.unusedSimpArgs false

def badSlot (n : Nat) (s : TSeat) : Bool := !inB s.2 0 ((n : Int) - 1)
def cachePre (c : TCache) : Bool := diskOk c.1 && (c.1.1 == 1700) && !decide ((c.1.2.1.length : Int) < 4) && topOk c.2.1 && (topOk c.2.2.1 || zeroT c.2.2.1) && seatsOk c.2.2.2.1
def cacheOk (c : TCache) : Bool := cachePre c && !(c.2.1.2.2.2 ++ c.2.2.1.2.2.2 ++ c.2.2.2.1).any (badSlot c.1.2.1.length) && !c.2.2.2.1.any (fun s => hasS c.2.1.2.2.2 s.2) && (risB c.2.2.2.2 && allIn c.2.2.2.2 1 64)
theorem cache_pre {c : TCache} (h : cachePre c = false) : cacheOk c = false := by unfold cacheOk; rw [h]; rfl
theorem seats_pos {l : List TSeat} (h : seatsOk l = true) : ∀ s ∈ l, 2 ≤ s.2 := by
  intro s hs
  simp only [seatsOk, Bool.and_eq_true, okTo, List.all_eq_true] at h
  obtain ⟨i, hi, rfl⟩ := List.getElem_of_mem hs
  have := h.2 i (by simpa using hi)
  simp only [okAt, Bool.and_eq_true, seatD_at l i hi] at this
  exact (inB_t.1 this.1.1.2).1
theorem top_seats {t : TTop} (h : topOk t = true) : seatsOk t.2.2.2 = true := by
  simp only [topOk, Bool.and_eq_true] at h
  exact h.2
theorem zeroT_seats {t : TTop} (h : zeroT t = true) : t.2.2.2 = [] := by
  simp only [zeroT, Bool.and_eq_true, List.isEmpty_iff] at h
  exact h.2
theorem below_bad {l : List TSeat} {n : Nat} (h : ∀ s ∈ l, 2 ≤ s.2) : belowS l n = !l.any (badSlot n) := by
  unfold belowS
  congr 1
  rw [Bool.eq_iff_iff, List.any_eq_true, List.any_eq_true]
  constructor
  · rintro ⟨s, hs, hb⟩
    refine ⟨s, hs, ?_⟩
    have := h s hs
    simp only [decide_eq_true_eq] at hb
    simp only [badSlot, Bool.not_eq_true', inB_f]
    omega
  · rintro ⟨s, hs, hb⟩
    refine ⟨s, hs, ?_⟩
    have := h s hs
    simp only [badSlot, Bool.not_eq_true', inB_f] at hb
    simp only [decide_eq_true_eq]
    omega
theorem cache_sz {c : TCache} (h : shCache.sz c ≤ 1048576) : shDisk.sz c.1 ≤ 1048576 ∧ c.2.1.2.2.2.length ≤ 1048576 ∧ c.2.2.1.2.2.2.length ≤ 1048576 ∧ c.2.2.2.1.length ≤ 1048576 ∧ c.2.2.2.2.length ≤ 1048576 := by
  have : shCache.sz c = shDisk.sz c.1 + ((0 + (0 + (0 + (c.2.1.2.2.2.length + (c.2.1.2.2.2.map shSeat.sz).sum)))) + ((0 + (0 + (0 + (c.2.2.1.2.2.2.length + (c.2.2.1.2.2.2.map shSeat.sz).sum)))) + ((c.2.2.2.1.length + (c.2.2.2.1.map shSeat.sz).sum) + (c.2.2.2.2.length + (c.2.2.2.2.map shI.sz).sum)))) := rfl
  omega

set_option maxRecDepth 100000 in
theorem c_CacheOk1 (B : Nat) (v : Value) (s : TSeat) (l : List TSeat) (A : Option Addr) (c : Nat) (w : World) (h : AV shSeat w v s) (hB : w.cell? ⟨B, 6, none⟩ = some (.slice A l.length c)) (hl : SRW shSeat w A c l) :
    Calls Tryz.prog 170 #[v, .pointer (some ⟨B, 0, none⟩)] w (BoolP (hasS l s.2) w) := by
  obtain ⟨cs, rfl, h⟩ := h
  obtain ⟨s0, s1⟩ := s
  have ho := openSeat h
  dsimp only at ho ⊢
  obtain ⟨rfl, b0, b1⟩ := ho
  have hBl := cell_lt hB
  have u0 : Up w (w.alloc (.cells #[.int .i64 s0, .int .i64 s1] 225)) := (Up.refl _).alloc _
  go_enter Tryz.func170, Tryz.ntmps170
  go_wp2_with fail
  refine (c_hasSlot l A c s1 _ (hl.up good_Seat u0)).mono ?_
  rintro e w1 ⟨rfl, u1⟩
  go_wp2_with fail
  go_ret
  exact ⟨rfl, u0.trans u1⟩
set_option maxRecDepth 100000 in
theorem eg_CacheOk1 : ∀ args w, (callFunc 170 args).run Tryz.prog w = .ok (.enter 170 args) w := enters_of Tryz.func170 (by kernel_rfl) rfl

set_option maxRecDepth 100000 in
set_option maxHeartbeats 8000000 in
theorem c_implCacheOk (v : Value) (x : TCache) (w : World) (h : AV shCache w v x) (hn : shCache.sz x ≤ 1048576) : Calls Tryz.prog 119 #[v] w (BoolP (cacheOk x) w) := by
  obtain ⟨cs, rfl, h⟩ := h
  obtain ⟨A1, c1, A2, c2, A6, c6, A10, c10, A11, c11, A12, c12, rfl, b0, b1, b2, b3, b4, b5, b6, b7, b8, b9, b10, b11, b12⟩ := openCache h
  clear h
  have hl1 := b1.len_le
  have hl11 := b11.len_le
  obtain ⟨hnd, ns6, ns10, ns11, ns12⟩ := cache_sz hn
  have ua1 : Up w (w.alloc (.cells #[.int .i64 x.1.1, .slice A1 x.1.2.1.length c1, .slice A2 x.1.2.2.length c2, .int .i64 x.2.1.1, .int .i64 x.2.1.2.1, .int .i64 x.2.1.2.2.1, .slice A6 x.2.1.2.2.2.length c6, .int .i64 x.2.2.1.1, .int .i64 x.2.2.1.2.1, .int .i64 x.2.2.1.2.2.1, .slice A10 x.2.2.1.2.2.2.length c10, .slice A11 x.2.2.2.1.length c11, .slice A12 x.2.2.2.2.length c12] 75)) := (Up.refl _).alloc _
  have uu1 := (Up.refl w).trans ua1
  have ka_1 : Bk (w.alloc (.cells #[.int .i64 x.1.1, .slice A1 x.1.2.1.length c1, .slice A2 x.1.2.2.length c2, .int .i64 x.2.1.1, .int .i64 x.2.1.2.1, .int .i64 x.2.1.2.2.1, .slice A6 x.2.1.2.2.2.length c6, .int .i64 x.2.2.1.1, .int .i64 x.2.2.1.2.1, .int .i64 x.2.2.1.2.2.1, .slice A10 x.2.2.1.2.2.2.length c10, .slice A11 x.2.2.2.1.length c11, .slice A12 x.2.2.2.2.length c12] 75)) (w.heap.size) 75 #[.int .i64 x.1.1, .slice A1 x.1.2.1.length c1, .slice A2 x.1.2.2.length c2, .int .i64 x.2.1.1, .int .i64 x.2.1.2.1, .int .i64 x.2.1.2.2.1, .slice A6 x.2.1.2.2.2.length c6, .int .i64 x.2.2.1.1, .int .i64 x.2.2.1.2.1, .int .i64 x.2.2.1.2.2.1, .slice A10 x.2.2.1.2.2.2.length c10, .slice A11 x.2.2.2.1.length c11, .slice A12 x.2.2.2.2.length c12] := by simpa using Bk.new w 75 #[.int .i64 x.1.1, .slice A1 x.1.2.1.length c1, .slice A2 x.1.2.2.length c2, .int .i64 x.2.1.1, .int .i64 x.2.1.2.1, .int .i64 x.2.1.2.2.1, .slice A6 x.2.1.2.2.2.length c6, .int .i64 x.2.2.1.1, .int .i64 x.2.2.1.2.1, .int .i64 x.2.2.1.2.2.1, .slice A10 x.2.2.1.2.2.2.length c10, .slice A11 x.2.2.2.1.length c11, .slice A12 x.2.2.2.2.length c12]
  go_enter Tryz.func119, Tryz.ntmps119
  go_wp2_with fail
  refine (c_implDiskOk _ x.1 _ ⟨_, rfl, mkDisk (x := x.1) b0 (b1.up good_S uu1) (b2.up good_Put uu1)⟩).mono ?_
  rintro e w2 ⟨rfl, u2⟩
  have uu2 := uu1.trans u2
  have ka_2 := ka_1.up u2
  have za_2 := ka_2.lt
  have ga2_0 : w2.cell? ⟨w.heap.size, 0, none⟩ = some (.int .i64 x.1.1) := ka_2.cell 0
  have ga2_1 : w2.cell? ⟨w.heap.size, 1, none⟩ = some (.slice A1 x.1.2.1.length c1) := ka_2.cell 1
  have ga2_2 : w2.cell? ⟨w.heap.size, 2, none⟩ = some (.slice A2 x.1.2.2.length c2) := ka_2.cell 2
  have ga2_3 : w2.cell? ⟨w.heap.size, 3, none⟩ = some (.int .i64 x.2.1.1) := ka_2.cell 3
  have ga2_4 : w2.cell? ⟨w.heap.size, 4, none⟩ = some (.int .i64 x.2.1.2.1) := ka_2.cell 4
  have ga2_5 : w2.cell? ⟨w.heap.size, 5, none⟩ = some (.int .i64 x.2.1.2.2.1) := ka_2.cell 5
  have ga2_6 : w2.cell? ⟨w.heap.size, 6, none⟩ = some (.slice A6 x.2.1.2.2.2.length c6) := ka_2.cell 6
  have ga2_7 : w2.cell? ⟨w.heap.size, 7, none⟩ = some (.int .i64 x.2.2.1.1) := ka_2.cell 7
  have ga2_8 : w2.cell? ⟨w.heap.size, 8, none⟩ = some (.int .i64 x.2.2.1.2.1) := ka_2.cell 8
  have ga2_9 : w2.cell? ⟨w.heap.size, 9, none⟩ = some (.int .i64 x.2.2.1.2.2.1) := ka_2.cell 9
  have ga2_10 : w2.cell? ⟨w.heap.size, 10, none⟩ = some (.slice A10 x.2.2.1.2.2.2.length c10) := ka_2.cell 10
  have ga2_11 : w2.cell? ⟨w.heap.size, 11, none⟩ = some (.slice A11 x.2.2.2.1.length c11) := ka_2.cell 11
  have ga2_12 : w2.cell? ⟨w.heap.size, 12, none⟩ = some (.slice A12 x.2.2.2.2.length c12) := ka_2.cell 12
  cases q0 : diskOk x.1
  · have HN : Hid (cacheOk x = false) := by unfold Hid; apply cache_pre; unfold cachePre; simp [q0]
    go_wp2_with fail
    go_ret
    exact bool_end HN uu2
  by_cases q1 : ¬ x.1.1 = 1700
  · have q1b : (x.1.1 != 1700) = true := by simpa using q1
    have HN : Hid (cacheOk x = false) := by unfold Hid; apply cache_pre; unfold cachePre; simp [q1]
    clear q1
    go_wp2_with fail
    go_ret
    exact bool_end HN uu2
  have Q1 : Hid (x.1.1 = 1700) := Classical.not_not.1 q1
  clear q1
  have q1b : (x.1.1 != 1700) = false := by rw [Q1.out]; rfl
  by_cases q2 : (x.1.2.1.length : Int) < 4
  · have HN : Hid (cacheOk x = false) := by unfold Hid; apply cache_pre; unfold cachePre; simp [q2]
    go_wp2_with fail
    go_ret
    exact bool_end HN uu2
  have q2b : decide ((x.1.2.1.length : Int) < 4) = false := by simpa using q2
  go_wp2_with fail
  refine (c_implTopOk _ x.2.1 _ ⟨_, rfl, mkTop (x := x.2.1) b3 b4 b5 (b6.up good_Seat uu2)⟩).mono ?_
  rintro e w3 ⟨rfl, u3⟩
  have uu3 := uu2.trans u3
  have ka_3 := ka_2.up u3
  have za_3 := ka_3.lt
  clear ga2_0 ga2_1 ga2_2 ga2_3 ga2_4 ga2_5 ga2_6 ga2_7 ga2_8 ga2_9 ga2_10 ga2_11 ga2_12
  have ga3_0 : w3.cell? ⟨w.heap.size, 0, none⟩ = some (.int .i64 x.1.1) := ka_3.cell 0
  have ga3_1 : w3.cell? ⟨w.heap.size, 1, none⟩ = some (.slice A1 x.1.2.1.length c1) := ka_3.cell 1
  have ga3_2 : w3.cell? ⟨w.heap.size, 2, none⟩ = some (.slice A2 x.1.2.2.length c2) := ka_3.cell 2
  have ga3_3 : w3.cell? ⟨w.heap.size, 3, none⟩ = some (.int .i64 x.2.1.1) := ka_3.cell 3
  have ga3_4 : w3.cell? ⟨w.heap.size, 4, none⟩ = some (.int .i64 x.2.1.2.1) := ka_3.cell 4
  have ga3_5 : w3.cell? ⟨w.heap.size, 5, none⟩ = some (.int .i64 x.2.1.2.2.1) := ka_3.cell 5
  have ga3_6 : w3.cell? ⟨w.heap.size, 6, none⟩ = some (.slice A6 x.2.1.2.2.2.length c6) := ka_3.cell 6
  have ga3_7 : w3.cell? ⟨w.heap.size, 7, none⟩ = some (.int .i64 x.2.2.1.1) := ka_3.cell 7
  have ga3_8 : w3.cell? ⟨w.heap.size, 8, none⟩ = some (.int .i64 x.2.2.1.2.1) := ka_3.cell 8
  have ga3_9 : w3.cell? ⟨w.heap.size, 9, none⟩ = some (.int .i64 x.2.2.1.2.2.1) := ka_3.cell 9
  have ga3_10 : w3.cell? ⟨w.heap.size, 10, none⟩ = some (.slice A10 x.2.2.1.2.2.2.length c10) := ka_3.cell 10
  have ga3_11 : w3.cell? ⟨w.heap.size, 11, none⟩ = some (.slice A11 x.2.2.2.1.length c11) := ka_3.cell 11
  have ga3_12 : w3.cell? ⟨w.heap.size, 12, none⟩ = some (.slice A12 x.2.2.2.2.length c12) := ka_3.cell 12
  cases q3 : topOk x.2.1
  · have HN : Hid (cacheOk x = false) := by unfold Hid; apply cache_pre; unfold cachePre; simp [q3]
    go_wp2_with fail
    go_ret
    exact bool_end HN uu3
  go_wp2_with fail
  refine (c_implTopOk _ x.2.2.1 _ ⟨_, rfl, mkTop (x := x.2.2.1) b7 b8 b9 (b10.up good_Seat uu3)⟩).mono ?_
  rintro e w4 ⟨rfl, u4⟩
  have uu4 := uu3.trans u4
  have ka_4 := ka_3.up u4
  have za_4 := ka_4.lt
  clear ga3_0 ga3_1 ga3_2 ga3_3 ga3_4 ga3_5 ga3_6 ga3_7 ga3_8 ga3_9 ga3_10 ga3_11 ga3_12
  have ga4_0 : w4.cell? ⟨w.heap.size, 0, none⟩ = some (.int .i64 x.1.1) := ka_4.cell 0
  have ga4_1 : w4.cell? ⟨w.heap.size, 1, none⟩ = some (.slice A1 x.1.2.1.length c1) := ka_4.cell 1
  have ga4_2 : w4.cell? ⟨w.heap.size, 2, none⟩ = some (.slice A2 x.1.2.2.length c2) := ka_4.cell 2
  have ga4_3 : w4.cell? ⟨w.heap.size, 3, none⟩ = some (.int .i64 x.2.1.1) := ka_4.cell 3
  have ga4_4 : w4.cell? ⟨w.heap.size, 4, none⟩ = some (.int .i64 x.2.1.2.1) := ka_4.cell 4
  have ga4_5 : w4.cell? ⟨w.heap.size, 5, none⟩ = some (.int .i64 x.2.1.2.2.1) := ka_4.cell 5
  have ga4_6 : w4.cell? ⟨w.heap.size, 6, none⟩ = some (.slice A6 x.2.1.2.2.2.length c6) := ka_4.cell 6
  have ga4_7 : w4.cell? ⟨w.heap.size, 7, none⟩ = some (.int .i64 x.2.2.1.1) := ka_4.cell 7
  have ga4_8 : w4.cell? ⟨w.heap.size, 8, none⟩ = some (.int .i64 x.2.2.1.2.1) := ka_4.cell 8
  have ga4_9 : w4.cell? ⟨w.heap.size, 9, none⟩ = some (.int .i64 x.2.2.1.2.2.1) := ka_4.cell 9
  have ga4_10 : w4.cell? ⟨w.heap.size, 10, none⟩ = some (.slice A10 x.2.2.1.2.2.2.length c10) := ka_4.cell 10
  have ga4_11 : w4.cell? ⟨w.heap.size, 11, none⟩ = some (.slice A11 x.2.2.2.1.length c11) := ka_4.cell 11
  have ga4_12 : w4.cell? ⟨w.heap.size, 12, none⟩ = some (.slice A12 x.2.2.2.2.length c12) := ka_4.cell 12
  cases q4 : topOk x.2.2.1
  · go_wp2_with fail
    refine (c_isZeroTop _ x.2.2.1 _ ⟨_, rfl, mkTop (x := x.2.2.1) b7 b8 b9 (b10.up good_Seat uu4)⟩).mono ?_
    rintro e w5 ⟨rfl, u5⟩
    have uu5 := uu4.trans u5
    have ka_5 := ka_4.up u5
    have za_5 := ka_5.lt
    clear ga4_0 ga4_1 ga4_2 ga4_3 ga4_4 ga4_5 ga4_6 ga4_7 ga4_8 ga4_9 ga4_10 ga4_11 ga4_12
    have ga5_0 : w5.cell? ⟨w.heap.size, 0, none⟩ = some (.int .i64 x.1.1) := ka_5.cell 0
    have ga5_1 : w5.cell? ⟨w.heap.size, 1, none⟩ = some (.slice A1 x.1.2.1.length c1) := ka_5.cell 1
    have ga5_2 : w5.cell? ⟨w.heap.size, 2, none⟩ = some (.slice A2 x.1.2.2.length c2) := ka_5.cell 2
    have ga5_3 : w5.cell? ⟨w.heap.size, 3, none⟩ = some (.int .i64 x.2.1.1) := ka_5.cell 3
    have ga5_4 : w5.cell? ⟨w.heap.size, 4, none⟩ = some (.int .i64 x.2.1.2.1) := ka_5.cell 4
    have ga5_5 : w5.cell? ⟨w.heap.size, 5, none⟩ = some (.int .i64 x.2.1.2.2.1) := ka_5.cell 5
    have ga5_6 : w5.cell? ⟨w.heap.size, 6, none⟩ = some (.slice A6 x.2.1.2.2.2.length c6) := ka_5.cell 6
    have ga5_7 : w5.cell? ⟨w.heap.size, 7, none⟩ = some (.int .i64 x.2.2.1.1) := ka_5.cell 7
    have ga5_8 : w5.cell? ⟨w.heap.size, 8, none⟩ = some (.int .i64 x.2.2.1.2.1) := ka_5.cell 8
    have ga5_9 : w5.cell? ⟨w.heap.size, 9, none⟩ = some (.int .i64 x.2.2.1.2.2.1) := ka_5.cell 9
    have ga5_10 : w5.cell? ⟨w.heap.size, 10, none⟩ = some (.slice A10 x.2.2.1.2.2.2.length c10) := ka_5.cell 10
    have ga5_11 : w5.cell? ⟨w.heap.size, 11, none⟩ = some (.slice A11 x.2.2.2.1.length c11) := ka_5.cell 11
    have ga5_12 : w5.cell? ⟨w.heap.size, 12, none⟩ = some (.slice A12 x.2.2.2.2.length c12) := ka_5.cell 12
    cases q5 : zeroT x.2.2.1
    · have HN : Hid (cacheOk x = false) := by unfold Hid; apply cache_pre; unfold cachePre; simp [q4, q5]
      go_wp2_with fail
      go_ret
      exact bool_end HN uu5
    have HZ : Hid ((topOk x.2.2.1 || zeroT x.2.2.1) = true) := by unfold Hid; rw [q5]; simp
    go_wp2_with fail
    refine (c_seatsOk _ _ _ _ (b11.up good_Seat uu5)).mono ?_
    rintro e w6 ⟨rfl, u6⟩
    have uu6 := uu5.trans u6
    have ka_6 := ka_5.up u6
    have za_6 := ka_6.lt
    clear ga5_0 ga5_1 ga5_2 ga5_3 ga5_4 ga5_5 ga5_6 ga5_7 ga5_8 ga5_9 ga5_10 ga5_11 ga5_12
    have ga6_0 : w6.cell? ⟨w.heap.size, 0, none⟩ = some (.int .i64 x.1.1) := ka_6.cell 0
    have ga6_1 : w6.cell? ⟨w.heap.size, 1, none⟩ = some (.slice A1 x.1.2.1.length c1) := ka_6.cell 1
    have ga6_2 : w6.cell? ⟨w.heap.size, 2, none⟩ = some (.slice A2 x.1.2.2.length c2) := ka_6.cell 2
    have ga6_3 : w6.cell? ⟨w.heap.size, 3, none⟩ = some (.int .i64 x.2.1.1) := ka_6.cell 3
    have ga6_4 : w6.cell? ⟨w.heap.size, 4, none⟩ = some (.int .i64 x.2.1.2.1) := ka_6.cell 4
    have ga6_5 : w6.cell? ⟨w.heap.size, 5, none⟩ = some (.int .i64 x.2.1.2.2.1) := ka_6.cell 5
    have ga6_6 : w6.cell? ⟨w.heap.size, 6, none⟩ = some (.slice A6 x.2.1.2.2.2.length c6) := ka_6.cell 6
    have ga6_7 : w6.cell? ⟨w.heap.size, 7, none⟩ = some (.int .i64 x.2.2.1.1) := ka_6.cell 7
    have ga6_8 : w6.cell? ⟨w.heap.size, 8, none⟩ = some (.int .i64 x.2.2.1.2.1) := ka_6.cell 8
    have ga6_9 : w6.cell? ⟨w.heap.size, 9, none⟩ = some (.int .i64 x.2.2.1.2.2.1) := ka_6.cell 9
    have ga6_10 : w6.cell? ⟨w.heap.size, 10, none⟩ = some (.slice A10 x.2.2.1.2.2.2.length c10) := ka_6.cell 10
    have ga6_11 : w6.cell? ⟨w.heap.size, 11, none⟩ = some (.slice A11 x.2.2.2.1.length c11) := ka_6.cell 11
    have ga6_12 : w6.cell? ⟨w.heap.size, 12, none⟩ = some (.slice A12 x.2.2.2.2.length c12) := ka_6.cell 12
    cases q6 : seatsOk x.2.2.2.1
    · have HN : Hid (cacheOk x = false) := by unfold Hid; apply cache_pre; unfold cachePre; simp [q6]
      go_wp2_with fail
      go_ret
      exact bool_end HN uu6
    have HP : Hid (cachePre x = true) := by unfold Hid cachePre; rw [q0, Q1.out, q2b, q3, HZ.out, q6]; rfl
    go_wp2_with fail
    have ua7 : Up w6 (w6.alloc (.cells #[.slice A6 x.2.1.2.2.2.length c6, .slice A10 x.2.2.1.2.2.2.length c10, .slice A11 x.2.2.2.1.length c11] 71)) := (Up.refl _).alloc _
    have uu7 := uu6.trans ua7
    have ka_7 := ka_6.up ua7
    have kb_7 : Bk (w6.alloc (.cells #[.slice A6 x.2.1.2.2.2.length c6, .slice A10 x.2.2.1.2.2.2.length c10, .slice A11 x.2.2.2.1.length c11] 71)) (w6.heap.size) 71 #[.slice A6 x.2.1.2.2.2.length c6, .slice A10 x.2.2.1.2.2.2.length c10, .slice A11 x.2.2.2.1.length c11] := by simpa using Bk.new w6 71 #[.slice A6 x.2.1.2.2.2.length c6, .slice A10 x.2.2.1.2.2.2.length c10, .slice A11 x.2.2.2.1.length c11]
    refine (c_Concat3Seat x.2.1.2.2.2 x.2.2.1.2.2.2 x.2.2.2.1 A6 A10 A11 c6 c10 c11 _ _ _ (b6.up good_Seat uu7) (b10.up good_Seat uu7) (b11.up good_Seat uu7) kb_7 ns6 ns10 ns11).mono ?_
    rintro e w8 ⟨D, d, bl, rfl, o1, nd1, u8⟩
    have uu8 := uu7.trans u8
    have ka_8 := ka_7.up u8
    have za_8 := ka_8.lt
    have kb_8 := kb_7.up u8
    have zb_8 := kb_8.lt
    clear ga6_0 ga6_1 ga6_2 ga6_3 ga6_4 ga6_5 ga6_6 ga6_7 ga6_8 ga6_9 ga6_10 ga6_11 ga6_12
    obtain ⟨L, hL⟩ : ∃ L, L = x.2.1.2.2.2 ++ x.2.2.1.2.2.2 ++ x.2.2.2.1 := ⟨_, rfl⟩
    rw [← hL] at o1
    rw [← hL]
    have HL := Lib.hid hL
    clear hL
    have sL := SR.of_own good_Seat o1
    have hlL := sL.len_le
    clear o1 nd1
    go_wp2_with fail
    go_loopw [57] (fun i wr => ∃ k : Nat, k ≤ L.length ∧ i = .int .i64 k ∧ Hid ((L.take k).any (badSlot x.1.2.1.length) = false) ∧ Up w8 wr ∧ Bk wr w.heap.size 75 #[.int .i64 x.1.1, .slice A1 x.1.2.1.length c1, .slice A2 x.1.2.2.length c2, .int .i64 x.2.1.1, .int .i64 x.2.1.2.1, .int .i64 x.2.1.2.2.1, .slice A6 x.2.1.2.2.2.length c6, .int .i64 x.2.2.1.1, .int .i64 x.2.2.1.2.1, .int .i64 x.2.2.1.2.2.1, .slice A10 x.2.2.1.2.2.2.length c10, .slice A11 x.2.2.2.1.length c11, .slice A12 x.2.2.2.2.length c12]) (fun i _ => L.length - (intOf i).toNat)
    case atStart => exact ⟨0, Nat.zero_le _, rfl, rfl, Up.refl _, ka_8⟩
    case round =>
      obtain ⟨k, hk, rfl, HT, hu, kA⟩ := hrel
      have uw := uu8.trans hu
      have zA := kA.lt
      have ga40_0 : wr.cell? ⟨w.heap.size, 0, none⟩ = some (.int .i64 x.1.1) := kA.cell 0
      have ga40_1 : wr.cell? ⟨w.heap.size, 1, none⟩ = some (.slice A1 x.1.2.1.length c1) := kA.cell 1
      have ga40_2 : wr.cell? ⟨w.heap.size, 2, none⟩ = some (.slice A2 x.1.2.2.length c2) := kA.cell 2
      have ga40_3 : wr.cell? ⟨w.heap.size, 3, none⟩ = some (.int .i64 x.2.1.1) := kA.cell 3
      have ga40_4 : wr.cell? ⟨w.heap.size, 4, none⟩ = some (.int .i64 x.2.1.2.1) := kA.cell 4
      have ga40_5 : wr.cell? ⟨w.heap.size, 5, none⟩ = some (.int .i64 x.2.1.2.2.1) := kA.cell 5
      have ga40_6 : wr.cell? ⟨w.heap.size, 6, none⟩ = some (.slice A6 x.2.1.2.2.2.length c6) := kA.cell 6
      have ga40_7 : wr.cell? ⟨w.heap.size, 7, none⟩ = some (.int .i64 x.2.2.1.1) := kA.cell 7
      have ga40_8 : wr.cell? ⟨w.heap.size, 8, none⟩ = some (.int .i64 x.2.2.1.2.1) := kA.cell 8
      have ga40_9 : wr.cell? ⟨w.heap.size, 9, none⟩ = some (.int .i64 x.2.2.1.2.2.1) := kA.cell 9
      have ga40_10 : wr.cell? ⟨w.heap.size, 10, none⟩ = some (.slice A10 x.2.2.1.2.2.2.length c10) := kA.cell 10
      have ga40_11 : wr.cell? ⟨w.heap.size, 11, none⟩ = some (.slice A11 x.2.2.2.1.length c11) := kA.cell 11
      have ga40_12 : wr.cell? ⟨w.heap.size, 12, none⟩ = some (.slice A12 x.2.2.2.2.length c12) := kA.cell 12
      by_cases hlt : k < L.length
      · obtain ⟨g, off, rfl, _, hgl, hc0, hc1, e0, e1, _⟩ := atSeat (sL.up good_Seat hu) hlt
        go_wp2_with fail
        have ua41 : Up wr (wr.alloc (.cells #[.int .i64 L[k].1, .int .i64 L[k].2] 225)) := (Up.refl _).alloc _
        have uu41 := uw.trans ua41
        have ka_41 := kA.up ua41
        have ks_41 : Bk (wr.alloc (.cells #[.int .i64 L[k].1, .int .i64 L[k].2] 225)) (wr.heap.size) 225 #[.int .i64 L[k].1, .int .i64 L[k].2] := by simpa using Bk.new wr 225 #[.int .i64 L[k].1, .int .i64 L[k].2]
        refine (c_has _ x.1 _ _ ⟨_, rfl, mkDisk (x := x.1) b0 (b1.up good_S uu41) (b2.up good_Put uu41)⟩).mono ?_
        rintro e w42 ⟨rfl, u42⟩
        have uu42 := uu41.trans u42
        have ka_42 := ka_41.up u42
        have za_42 := ka_42.lt
        have ks_42 := ks_41.up u42
        have zs_42 := ks_42.lt
        cases q : inB L[k].2 0 ((x.1.2.1.length : Int) - 1)
        · have HN : Hid (cacheOk x = false) := by unfold Hid cacheOk; rw [← HL.out, any_at (badSlot x.1.2.1.length) L k hlt (by simp [badSlot, q])]; simp
          go_wp2_with fail
          go_ret
          exact bool_end HN uu42
        have HN : Hid ((L.take (k + 1)).any (badSlot x.1.2.1.length) = false) := by unfold Hid; rw [any_take_succ _ L k hlt, HT.out]; simp [badSlot, q]
        go_wp2_with fail
        go_roundw
        case rel => exact ⟨k + 1, by omega, by go_num, HN, (hu.trans ua41).trans u42, ka_42⟩
        case measure => simp [intOf]; omega
      · have H1 : Hid ((x.2.1.2.2.2 ++ x.2.2.1.2.2.2 ++ x.2.2.2.1).any (badSlot x.1.2.1.length) = false) := by unfold Hid; rw [← HL.out]; exact any_all _ L k HT.out (by omega)
        go_wp2_with fail
        have hf : ∀ (W : World) (v : Value) (s : TSeat), s ∈ x.2.2.2.1 → Up wr W → AV shSeat W v s → Calls Tryz.prog 170 (#[v] ++ #[.pointer (some ⟨w.heap.size, 0, none⟩)]) W (BoolP (hasS x.2.1.2.2.2 s.2) W) := fun W v s _ hW hav => by
          rw [app_two]
          exact c_CacheOk1 _ v s x.2.1.2.2.2 A6 c6 W hav ((kA.up hW).cell 6) (b6.up good_Seat (uw.trans hW))
        refine (c_ContainsFuncSeat 170 _ eg_CacheOk1 (fun s => hasS x.2.1.2.2.2 s.2) _ _ x.2.2.2.1 _ (b11.up good_Seat uw) hf).mono ?_
        rintro e w41 ⟨rfl, u41⟩
        have uu41 := uw.trans u41
        have ka_41 := kA.up u41
        have za_41 := ka_41.lt
        clear ga40_0 ga40_1 ga40_2 ga40_3 ga40_4 ga40_5 ga40_6 ga40_7 ga40_8 ga40_9 ga40_10 ga40_11 ga40_12
        have ga41_0 : w41.cell? ⟨w.heap.size, 0, none⟩ = some (.int .i64 x.1.1) := ka_41.cell 0
        have ga41_1 : w41.cell? ⟨w.heap.size, 1, none⟩ = some (.slice A1 x.1.2.1.length c1) := ka_41.cell 1
        have ga41_2 : w41.cell? ⟨w.heap.size, 2, none⟩ = some (.slice A2 x.1.2.2.length c2) := ka_41.cell 2
        have ga41_3 : w41.cell? ⟨w.heap.size, 3, none⟩ = some (.int .i64 x.2.1.1) := ka_41.cell 3
        have ga41_4 : w41.cell? ⟨w.heap.size, 4, none⟩ = some (.int .i64 x.2.1.2.1) := ka_41.cell 4
        have ga41_5 : w41.cell? ⟨w.heap.size, 5, none⟩ = some (.int .i64 x.2.1.2.2.1) := ka_41.cell 5
        have ga41_6 : w41.cell? ⟨w.heap.size, 6, none⟩ = some (.slice A6 x.2.1.2.2.2.length c6) := ka_41.cell 6
        have ga41_7 : w41.cell? ⟨w.heap.size, 7, none⟩ = some (.int .i64 x.2.2.1.1) := ka_41.cell 7
        have ga41_8 : w41.cell? ⟨w.heap.size, 8, none⟩ = some (.int .i64 x.2.2.1.2.1) := ka_41.cell 8
        have ga41_9 : w41.cell? ⟨w.heap.size, 9, none⟩ = some (.int .i64 x.2.2.1.2.2.1) := ka_41.cell 9
        have ga41_10 : w41.cell? ⟨w.heap.size, 10, none⟩ = some (.slice A10 x.2.2.1.2.2.2.length c10) := ka_41.cell 10
        have ga41_11 : w41.cell? ⟨w.heap.size, 11, none⟩ = some (.slice A11 x.2.2.2.1.length c11) := ka_41.cell 11
        have ga41_12 : w41.cell? ⟨w.heap.size, 12, none⟩ = some (.slice A12 x.2.2.2.2.length c12) := ka_41.cell 12
        cases q8 : x.2.2.2.1.any (fun s => hasS x.2.1.2.2.2 s.2)
        rotate_left
        · have HN : Hid (cacheOk x = false) := by unfold Hid; unfold cacheOk; rw [q8]; simp
          go_wp2_with fail
          go_ret
          exact bool_end HN uu41
        go_wp2_with fail
        refine (c_rising _ _ _ _ (b12.up good_I uu41)).mono ?_
        rintro e w42 ⟨rfl, u42⟩
        have uu42 := uu41.trans u42
        have ka_42 := ka_41.up u42
        have za_42 := ka_42.lt
        clear ga41_0 ga41_1 ga41_2 ga41_3 ga41_4 ga41_5 ga41_6 ga41_7 ga41_8 ga41_9 ga41_10 ga41_11 ga41_12
        have ga42_0 : w42.cell? ⟨w.heap.size, 0, none⟩ = some (.int .i64 x.1.1) := ka_42.cell 0
        have ga42_1 : w42.cell? ⟨w.heap.size, 1, none⟩ = some (.slice A1 x.1.2.1.length c1) := ka_42.cell 1
        have ga42_2 : w42.cell? ⟨w.heap.size, 2, none⟩ = some (.slice A2 x.1.2.2.length c2) := ka_42.cell 2
        have ga42_3 : w42.cell? ⟨w.heap.size, 3, none⟩ = some (.int .i64 x.2.1.1) := ka_42.cell 3
        have ga42_4 : w42.cell? ⟨w.heap.size, 4, none⟩ = some (.int .i64 x.2.1.2.1) := ka_42.cell 4
        have ga42_5 : w42.cell? ⟨w.heap.size, 5, none⟩ = some (.int .i64 x.2.1.2.2.1) := ka_42.cell 5
        have ga42_6 : w42.cell? ⟨w.heap.size, 6, none⟩ = some (.slice A6 x.2.1.2.2.2.length c6) := ka_42.cell 6
        have ga42_7 : w42.cell? ⟨w.heap.size, 7, none⟩ = some (.int .i64 x.2.2.1.1) := ka_42.cell 7
        have ga42_8 : w42.cell? ⟨w.heap.size, 8, none⟩ = some (.int .i64 x.2.2.1.2.1) := ka_42.cell 8
        have ga42_9 : w42.cell? ⟨w.heap.size, 9, none⟩ = some (.int .i64 x.2.2.1.2.2.1) := ka_42.cell 9
        have ga42_10 : w42.cell? ⟨w.heap.size, 10, none⟩ = some (.slice A10 x.2.2.1.2.2.2.length c10) := ka_42.cell 10
        have ga42_11 : w42.cell? ⟨w.heap.size, 11, none⟩ = some (.slice A11 x.2.2.2.1.length c11) := ka_42.cell 11
        have ga42_12 : w42.cell? ⟨w.heap.size, 12, none⟩ = some (.slice A12 x.2.2.2.2.length c12) := ka_42.cell 12
        cases q9 : risB x.2.2.2.2
        · have HN : Hid (cacheOk x = false) := by unfold Hid; unfold cacheOk; rw [q9]; simp
          go_wp2_with fail
          go_ret
          exact bool_end HN uu42
        have HN : Hid (cacheOk x = allIn x.2.2.2.2 1 64) := by unfold Hid cacheOk; rw [HP.out, H1.out, q8, q9]; simp
        go_wp2_with fail
        refine (c_allWithin _ _ _ _ _ _ (b12.up good_I uu42)).mono ?_
        rintro e w43 ⟨rfl, u43⟩
        have uu43 := uu42.trans u43
        have ka_43 := ka_42.up u43
        have za_43 := ka_43.lt
        clear ga42_0 ga42_1 ga42_2 ga42_3 ga42_4 ga42_5 ga42_6 ga42_7 ga42_8 ga42_9 ga42_10 ga42_11 ga42_12
        go_wp2_with fail
        go_ret
        exact bool_end HN uu43
  have HZ : Hid ((topOk x.2.2.1 || zeroT x.2.2.1) = true) := by unfold Hid; rw [q4]; simp
  go_wp2_with fail
  refine (c_seatsOk _ _ _ _ (b11.up good_Seat uu4)).mono ?_
  rintro e w5 ⟨rfl, u5⟩
  have uu5 := uu4.trans u5
  have ka_5 := ka_4.up u5
  have za_5 := ka_5.lt
  clear ga4_0 ga4_1 ga4_2 ga4_3 ga4_4 ga4_5 ga4_6 ga4_7 ga4_8 ga4_9 ga4_10 ga4_11 ga4_12
  have ga5_0 : w5.cell? ⟨w.heap.size, 0, none⟩ = some (.int .i64 x.1.1) := ka_5.cell 0
  have ga5_1 : w5.cell? ⟨w.heap.size, 1, none⟩ = some (.slice A1 x.1.2.1.length c1) := ka_5.cell 1
  have ga5_2 : w5.cell? ⟨w.heap.size, 2, none⟩ = some (.slice A2 x.1.2.2.length c2) := ka_5.cell 2
  have ga5_3 : w5.cell? ⟨w.heap.size, 3, none⟩ = some (.int .i64 x.2.1.1) := ka_5.cell 3
  have ga5_4 : w5.cell? ⟨w.heap.size, 4, none⟩ = some (.int .i64 x.2.1.2.1) := ka_5.cell 4
  have ga5_5 : w5.cell? ⟨w.heap.size, 5, none⟩ = some (.int .i64 x.2.1.2.2.1) := ka_5.cell 5
  have ga5_6 : w5.cell? ⟨w.heap.size, 6, none⟩ = some (.slice A6 x.2.1.2.2.2.length c6) := ka_5.cell 6
  have ga5_7 : w5.cell? ⟨w.heap.size, 7, none⟩ = some (.int .i64 x.2.2.1.1) := ka_5.cell 7
  have ga5_8 : w5.cell? ⟨w.heap.size, 8, none⟩ = some (.int .i64 x.2.2.1.2.1) := ka_5.cell 8
  have ga5_9 : w5.cell? ⟨w.heap.size, 9, none⟩ = some (.int .i64 x.2.2.1.2.2.1) := ka_5.cell 9
  have ga5_10 : w5.cell? ⟨w.heap.size, 10, none⟩ = some (.slice A10 x.2.2.1.2.2.2.length c10) := ka_5.cell 10
  have ga5_11 : w5.cell? ⟨w.heap.size, 11, none⟩ = some (.slice A11 x.2.2.2.1.length c11) := ka_5.cell 11
  have ga5_12 : w5.cell? ⟨w.heap.size, 12, none⟩ = some (.slice A12 x.2.2.2.2.length c12) := ka_5.cell 12
  cases q6 : seatsOk x.2.2.2.1
  · have HN : Hid (cacheOk x = false) := by unfold Hid; apply cache_pre; unfold cachePre; simp [q6]
    go_wp2_with fail
    go_ret
    exact bool_end HN uu5
  have HP : Hid (cachePre x = true) := by unfold Hid cachePre; rw [q0, Q1.out, q2b, q3, HZ.out, q6]; rfl
  go_wp2_with fail
  have ua6 : Up w5 (w5.alloc (.cells #[.slice A6 x.2.1.2.2.2.length c6, .slice A10 x.2.2.1.2.2.2.length c10, .slice A11 x.2.2.2.1.length c11] 71)) := (Up.refl _).alloc _
  have uu6 := uu5.trans ua6
  have ka_6 := ka_5.up ua6
  have kb_6 : Bk (w5.alloc (.cells #[.slice A6 x.2.1.2.2.2.length c6, .slice A10 x.2.2.1.2.2.2.length c10, .slice A11 x.2.2.2.1.length c11] 71)) (w5.heap.size) 71 #[.slice A6 x.2.1.2.2.2.length c6, .slice A10 x.2.2.1.2.2.2.length c10, .slice A11 x.2.2.2.1.length c11] := by simpa using Bk.new w5 71 #[.slice A6 x.2.1.2.2.2.length c6, .slice A10 x.2.2.1.2.2.2.length c10, .slice A11 x.2.2.2.1.length c11]
  refine (c_Concat3Seat x.2.1.2.2.2 x.2.2.1.2.2.2 x.2.2.2.1 A6 A10 A11 c6 c10 c11 _ _ _ (b6.up good_Seat uu6) (b10.up good_Seat uu6) (b11.up good_Seat uu6) kb_6 ns6 ns10 ns11).mono ?_
  rintro e w7 ⟨D, d, bl, rfl, o1, nd1, u7⟩
  have uu7 := uu6.trans u7
  have ka_7 := ka_6.up u7
  have za_7 := ka_7.lt
  have kb_7 := kb_6.up u7
  have zb_7 := kb_7.lt
  clear ga5_0 ga5_1 ga5_2 ga5_3 ga5_4 ga5_5 ga5_6 ga5_7 ga5_8 ga5_9 ga5_10 ga5_11 ga5_12
  obtain ⟨L, hL⟩ : ∃ L, L = x.2.1.2.2.2 ++ x.2.2.1.2.2.2 ++ x.2.2.2.1 := ⟨_, rfl⟩
  rw [← hL] at o1
  rw [← hL]
  have HL := Lib.hid hL
  clear hL
  have sL := SR.of_own good_Seat o1
  have hlL := sL.len_le
  clear o1 nd1
  go_wp2_with fail
  go_loopw [57] (fun i wr => ∃ k : Nat, k ≤ L.length ∧ i = .int .i64 k ∧ Hid ((L.take k).any (badSlot x.1.2.1.length) = false) ∧ Up w7 wr ∧ Bk wr w.heap.size 75 #[.int .i64 x.1.1, .slice A1 x.1.2.1.length c1, .slice A2 x.1.2.2.length c2, .int .i64 x.2.1.1, .int .i64 x.2.1.2.1, .int .i64 x.2.1.2.2.1, .slice A6 x.2.1.2.2.2.length c6, .int .i64 x.2.2.1.1, .int .i64 x.2.2.1.2.1, .int .i64 x.2.2.1.2.2.1, .slice A10 x.2.2.1.2.2.2.length c10, .slice A11 x.2.2.2.1.length c11, .slice A12 x.2.2.2.2.length c12]) (fun i _ => L.length - (intOf i).toNat)
  case atStart => exact ⟨0, Nat.zero_le _, rfl, rfl, Up.refl _, ka_7⟩
  case round =>
    obtain ⟨k, hk, rfl, HT, hu, kA⟩ := hrel
    have uw := uu7.trans hu
    have zA := kA.lt
    have ga40_0 : wr.cell? ⟨w.heap.size, 0, none⟩ = some (.int .i64 x.1.1) := kA.cell 0
    have ga40_1 : wr.cell? ⟨w.heap.size, 1, none⟩ = some (.slice A1 x.1.2.1.length c1) := kA.cell 1
    have ga40_2 : wr.cell? ⟨w.heap.size, 2, none⟩ = some (.slice A2 x.1.2.2.length c2) := kA.cell 2
    have ga40_3 : wr.cell? ⟨w.heap.size, 3, none⟩ = some (.int .i64 x.2.1.1) := kA.cell 3
    have ga40_4 : wr.cell? ⟨w.heap.size, 4, none⟩ = some (.int .i64 x.2.1.2.1) := kA.cell 4
    have ga40_5 : wr.cell? ⟨w.heap.size, 5, none⟩ = some (.int .i64 x.2.1.2.2.1) := kA.cell 5
    have ga40_6 : wr.cell? ⟨w.heap.size, 6, none⟩ = some (.slice A6 x.2.1.2.2.2.length c6) := kA.cell 6
    have ga40_7 : wr.cell? ⟨w.heap.size, 7, none⟩ = some (.int .i64 x.2.2.1.1) := kA.cell 7
    have ga40_8 : wr.cell? ⟨w.heap.size, 8, none⟩ = some (.int .i64 x.2.2.1.2.1) := kA.cell 8
    have ga40_9 : wr.cell? ⟨w.heap.size, 9, none⟩ = some (.int .i64 x.2.2.1.2.2.1) := kA.cell 9
    have ga40_10 : wr.cell? ⟨w.heap.size, 10, none⟩ = some (.slice A10 x.2.2.1.2.2.2.length c10) := kA.cell 10
    have ga40_11 : wr.cell? ⟨w.heap.size, 11, none⟩ = some (.slice A11 x.2.2.2.1.length c11) := kA.cell 11
    have ga40_12 : wr.cell? ⟨w.heap.size, 12, none⟩ = some (.slice A12 x.2.2.2.2.length c12) := kA.cell 12
    by_cases hlt : k < L.length
    · obtain ⟨g, off, rfl, _, hgl, hc0, hc1, e0, e1, _⟩ := atSeat (sL.up good_Seat hu) hlt
      go_wp2_with fail
      have ua41 : Up wr (wr.alloc (.cells #[.int .i64 L[k].1, .int .i64 L[k].2] 225)) := (Up.refl _).alloc _
      have uu41 := uw.trans ua41
      have ka_41 := kA.up ua41
      have ks_41 : Bk (wr.alloc (.cells #[.int .i64 L[k].1, .int .i64 L[k].2] 225)) (wr.heap.size) 225 #[.int .i64 L[k].1, .int .i64 L[k].2] := by simpa using Bk.new wr 225 #[.int .i64 L[k].1, .int .i64 L[k].2]
      refine (c_has _ x.1 _ _ ⟨_, rfl, mkDisk (x := x.1) b0 (b1.up good_S uu41) (b2.up good_Put uu41)⟩).mono ?_
      rintro e w42 ⟨rfl, u42⟩
      have uu42 := uu41.trans u42
      have ka_42 := ka_41.up u42
      have za_42 := ka_42.lt
      have ks_42 := ks_41.up u42
      have zs_42 := ks_42.lt
      cases q : inB L[k].2 0 ((x.1.2.1.length : Int) - 1)
      · have HN : Hid (cacheOk x = false) := by unfold Hid cacheOk; rw [← HL.out, any_at (badSlot x.1.2.1.length) L k hlt (by simp [badSlot, q])]; simp
        go_wp2_with fail
        go_ret
        exact bool_end HN uu42
      have HN : Hid ((L.take (k + 1)).any (badSlot x.1.2.1.length) = false) := by unfold Hid; rw [any_take_succ _ L k hlt, HT.out]; simp [badSlot, q]
      go_wp2_with fail
      go_roundw
      case rel => exact ⟨k + 1, by omega, by go_num, HN, (hu.trans ua41).trans u42, ka_42⟩
      case measure => simp [intOf]; omega
    · have H1 : Hid ((x.2.1.2.2.2 ++ x.2.2.1.2.2.2 ++ x.2.2.2.1).any (badSlot x.1.2.1.length) = false) := by unfold Hid; rw [← HL.out]; exact any_all _ L k HT.out (by omega)
      go_wp2_with fail
      have hf : ∀ (W : World) (v : Value) (s : TSeat), s ∈ x.2.2.2.1 → Up wr W → AV shSeat W v s → Calls Tryz.prog 170 (#[v] ++ #[.pointer (some ⟨w.heap.size, 0, none⟩)]) W (BoolP (hasS x.2.1.2.2.2 s.2) W) := fun W v s _ hW hav => by
        rw [app_two]
        exact c_CacheOk1 _ v s x.2.1.2.2.2 A6 c6 W hav ((kA.up hW).cell 6) (b6.up good_Seat (uw.trans hW))
      refine (c_ContainsFuncSeat 170 _ eg_CacheOk1 (fun s => hasS x.2.1.2.2.2 s.2) _ _ x.2.2.2.1 _ (b11.up good_Seat uw) hf).mono ?_
      rintro e w41 ⟨rfl, u41⟩
      have uu41 := uw.trans u41
      have ka_41 := kA.up u41
      have za_41 := ka_41.lt
      clear ga40_0 ga40_1 ga40_2 ga40_3 ga40_4 ga40_5 ga40_6 ga40_7 ga40_8 ga40_9 ga40_10 ga40_11 ga40_12
      have ga41_0 : w41.cell? ⟨w.heap.size, 0, none⟩ = some (.int .i64 x.1.1) := ka_41.cell 0
      have ga41_1 : w41.cell? ⟨w.heap.size, 1, none⟩ = some (.slice A1 x.1.2.1.length c1) := ka_41.cell 1
      have ga41_2 : w41.cell? ⟨w.heap.size, 2, none⟩ = some (.slice A2 x.1.2.2.length c2) := ka_41.cell 2
      have ga41_3 : w41.cell? ⟨w.heap.size, 3, none⟩ = some (.int .i64 x.2.1.1) := ka_41.cell 3
      have ga41_4 : w41.cell? ⟨w.heap.size, 4, none⟩ = some (.int .i64 x.2.1.2.1) := ka_41.cell 4
      have ga41_5 : w41.cell? ⟨w.heap.size, 5, none⟩ = some (.int .i64 x.2.1.2.2.1) := ka_41.cell 5
      have ga41_6 : w41.cell? ⟨w.heap.size, 6, none⟩ = some (.slice A6 x.2.1.2.2.2.length c6) := ka_41.cell 6
      have ga41_7 : w41.cell? ⟨w.heap.size, 7, none⟩ = some (.int .i64 x.2.2.1.1) := ka_41.cell 7
      have ga41_8 : w41.cell? ⟨w.heap.size, 8, none⟩ = some (.int .i64 x.2.2.1.2.1) := ka_41.cell 8
      have ga41_9 : w41.cell? ⟨w.heap.size, 9, none⟩ = some (.int .i64 x.2.2.1.2.2.1) := ka_41.cell 9
      have ga41_10 : w41.cell? ⟨w.heap.size, 10, none⟩ = some (.slice A10 x.2.2.1.2.2.2.length c10) := ka_41.cell 10
      have ga41_11 : w41.cell? ⟨w.heap.size, 11, none⟩ = some (.slice A11 x.2.2.2.1.length c11) := ka_41.cell 11
      have ga41_12 : w41.cell? ⟨w.heap.size, 12, none⟩ = some (.slice A12 x.2.2.2.2.length c12) := ka_41.cell 12
      cases q8 : x.2.2.2.1.any (fun s => hasS x.2.1.2.2.2 s.2)
      rotate_left
      · have HN : Hid (cacheOk x = false) := by unfold Hid; unfold cacheOk; rw [q8]; simp
        go_wp2_with fail
        go_ret
        exact bool_end HN uu41
      go_wp2_with fail
      refine (c_rising _ _ _ _ (b12.up good_I uu41)).mono ?_
      rintro e w42 ⟨rfl, u42⟩
      have uu42 := uu41.trans u42
      have ka_42 := ka_41.up u42
      have za_42 := ka_42.lt
      clear ga41_0 ga41_1 ga41_2 ga41_3 ga41_4 ga41_5 ga41_6 ga41_7 ga41_8 ga41_9 ga41_10 ga41_11 ga41_12
      have ga42_0 : w42.cell? ⟨w.heap.size, 0, none⟩ = some (.int .i64 x.1.1) := ka_42.cell 0
      have ga42_1 : w42.cell? ⟨w.heap.size, 1, none⟩ = some (.slice A1 x.1.2.1.length c1) := ka_42.cell 1
      have ga42_2 : w42.cell? ⟨w.heap.size, 2, none⟩ = some (.slice A2 x.1.2.2.length c2) := ka_42.cell 2
      have ga42_3 : w42.cell? ⟨w.heap.size, 3, none⟩ = some (.int .i64 x.2.1.1) := ka_42.cell 3
      have ga42_4 : w42.cell? ⟨w.heap.size, 4, none⟩ = some (.int .i64 x.2.1.2.1) := ka_42.cell 4
      have ga42_5 : w42.cell? ⟨w.heap.size, 5, none⟩ = some (.int .i64 x.2.1.2.2.1) := ka_42.cell 5
      have ga42_6 : w42.cell? ⟨w.heap.size, 6, none⟩ = some (.slice A6 x.2.1.2.2.2.length c6) := ka_42.cell 6
      have ga42_7 : w42.cell? ⟨w.heap.size, 7, none⟩ = some (.int .i64 x.2.2.1.1) := ka_42.cell 7
      have ga42_8 : w42.cell? ⟨w.heap.size, 8, none⟩ = some (.int .i64 x.2.2.1.2.1) := ka_42.cell 8
      have ga42_9 : w42.cell? ⟨w.heap.size, 9, none⟩ = some (.int .i64 x.2.2.1.2.2.1) := ka_42.cell 9
      have ga42_10 : w42.cell? ⟨w.heap.size, 10, none⟩ = some (.slice A10 x.2.2.1.2.2.2.length c10) := ka_42.cell 10
      have ga42_11 : w42.cell? ⟨w.heap.size, 11, none⟩ = some (.slice A11 x.2.2.2.1.length c11) := ka_42.cell 11
      have ga42_12 : w42.cell? ⟨w.heap.size, 12, none⟩ = some (.slice A12 x.2.2.2.2.length c12) := ka_42.cell 12
      cases q9 : risB x.2.2.2.2
      · have HN : Hid (cacheOk x = false) := by unfold Hid; unfold cacheOk; rw [q9]; simp
        go_wp2_with fail
        go_ret
        exact bool_end HN uu42
      have HN : Hid (cacheOk x = allIn x.2.2.2.2 1 64) := by unfold Hid cacheOk; rw [HP.out, H1.out, q8, q9]; simp
      go_wp2_with fail
      refine (c_allWithin _ _ _ _ _ _ (b12.up good_I uu42)).mono ?_
      rintro e w43 ⟨rfl, u43⟩
      have uu43 := uu42.trans u43
      have ka_43 := ka_42.up u43
      have za_43 := ka_43.lt
      clear ga42_0 ga42_1 ga42_2 ga42_3 ga42_4 ga42_5 ga42_6 ga42_7 ga42_8 ga42_9 ga42_10 ga42_11 ga42_12
      go_wp2_with fail
      go_ret
      exact bool_end HN uu43

set_option maxRecDepth 100000 in
set_option maxHeartbeats 8000000 in
theorem c_specCacheOk (v : Value) (x : TCache) (w : World) (h : AV shCache w v x) (hn : shCache.sz x ≤ 1048576) : Calls Tryz.prog 113 #[v] w (BoolP (cacheOk x) w) := by
  obtain ⟨cs, rfl, h⟩ := h
  obtain ⟨A1, c1, A2, c2, A6, c6, A10, c10, A11, c11, A12, c12, rfl, b0, b1, b2, b3, b4, b5, b6, b7, b8, b9, b10, b11, b12⟩ := openCache h
  clear h
  have hl1 := b1.len_le
  have hl11 := b11.len_le
  obtain ⟨hnd, ns6, ns10, ns11, ns12⟩ := cache_sz hn
  have ua1 : Up w (w.alloc (.cells #[.int .i64 x.1.1, .slice A1 x.1.2.1.length c1, .slice A2 x.1.2.2.length c2, .int .i64 x.2.1.1, .int .i64 x.2.1.2.1, .int .i64 x.2.1.2.2.1, .slice A6 x.2.1.2.2.2.length c6, .int .i64 x.2.2.1.1, .int .i64 x.2.2.1.2.1, .int .i64 x.2.2.1.2.2.1, .slice A10 x.2.2.1.2.2.2.length c10, .slice A11 x.2.2.2.1.length c11, .slice A12 x.2.2.2.2.length c12] 75)) := (Up.refl _).alloc _
  have uu1 := (Up.refl w).trans ua1
  have ka_1 : Bk (w.alloc (.cells #[.int .i64 x.1.1, .slice A1 x.1.2.1.length c1, .slice A2 x.1.2.2.length c2, .int .i64 x.2.1.1, .int .i64 x.2.1.2.1, .int .i64 x.2.1.2.2.1, .slice A6 x.2.1.2.2.2.length c6, .int .i64 x.2.2.1.1, .int .i64 x.2.2.1.2.1, .int .i64 x.2.2.1.2.2.1, .slice A10 x.2.2.1.2.2.2.length c10, .slice A11 x.2.2.2.1.length c11, .slice A12 x.2.2.2.2.length c12] 75)) (w.heap.size) 75 #[.int .i64 x.1.1, .slice A1 x.1.2.1.length c1, .slice A2 x.1.2.2.length c2, .int .i64 x.2.1.1, .int .i64 x.2.1.2.1, .int .i64 x.2.1.2.2.1, .slice A6 x.2.1.2.2.2.length c6, .int .i64 x.2.2.1.1, .int .i64 x.2.2.1.2.1, .int .i64 x.2.2.1.2.2.1, .slice A10 x.2.2.1.2.2.2.length c10, .slice A11 x.2.2.2.1.length c11, .slice A12 x.2.2.2.2.length c12] := by simpa using Bk.new w 75 #[.int .i64 x.1.1, .slice A1 x.1.2.1.length c1, .slice A2 x.1.2.2.length c2, .int .i64 x.2.1.1, .int .i64 x.2.1.2.1, .int .i64 x.2.1.2.2.1, .slice A6 x.2.1.2.2.2.length c6, .int .i64 x.2.2.1.1, .int .i64 x.2.2.1.2.1, .int .i64 x.2.2.1.2.2.1, .slice A10 x.2.2.1.2.2.2.length c10, .slice A11 x.2.2.2.1.length c11, .slice A12 x.2.2.2.2.length c12]
  go_enter Tryz.func113, Tryz.ntmps113
  go_wp2_with fail
  refine (c_specDiskOk _ x.1 _ ⟨_, rfl, mkDisk (x := x.1) b0 (b1.up good_S uu1) (b2.up good_Put uu1)⟩).mono ?_
  rintro e w2 ⟨rfl, u2⟩
  have uu2 := uu1.trans u2
  have ka_2 := ka_1.up u2
  have za_2 := ka_2.lt
  have ga2_0 : w2.cell? ⟨w.heap.size, 0, none⟩ = some (.int .i64 x.1.1) := ka_2.cell 0
  have ga2_1 : w2.cell? ⟨w.heap.size, 1, none⟩ = some (.slice A1 x.1.2.1.length c1) := ka_2.cell 1
  have ga2_2 : w2.cell? ⟨w.heap.size, 2, none⟩ = some (.slice A2 x.1.2.2.length c2) := ka_2.cell 2
  have ga2_3 : w2.cell? ⟨w.heap.size, 3, none⟩ = some (.int .i64 x.2.1.1) := ka_2.cell 3
  have ga2_4 : w2.cell? ⟨w.heap.size, 4, none⟩ = some (.int .i64 x.2.1.2.1) := ka_2.cell 4
  have ga2_5 : w2.cell? ⟨w.heap.size, 5, none⟩ = some (.int .i64 x.2.1.2.2.1) := ka_2.cell 5
  have ga2_6 : w2.cell? ⟨w.heap.size, 6, none⟩ = some (.slice A6 x.2.1.2.2.2.length c6) := ka_2.cell 6
  have ga2_7 : w2.cell? ⟨w.heap.size, 7, none⟩ = some (.int .i64 x.2.2.1.1) := ka_2.cell 7
  have ga2_8 : w2.cell? ⟨w.heap.size, 8, none⟩ = some (.int .i64 x.2.2.1.2.1) := ka_2.cell 8
  have ga2_9 : w2.cell? ⟨w.heap.size, 9, none⟩ = some (.int .i64 x.2.2.1.2.2.1) := ka_2.cell 9
  have ga2_10 : w2.cell? ⟨w.heap.size, 10, none⟩ = some (.slice A10 x.2.2.1.2.2.2.length c10) := ka_2.cell 10
  have ga2_11 : w2.cell? ⟨w.heap.size, 11, none⟩ = some (.slice A11 x.2.2.2.1.length c11) := ka_2.cell 11
  have ga2_12 : w2.cell? ⟨w.heap.size, 12, none⟩ = some (.slice A12 x.2.2.2.2.length c12) := ka_2.cell 12
  cases q0 : diskOk x.1
  · have HN : Hid (cacheOk x = false) := by unfold Hid; apply cache_pre; unfold cachePre; simp [q0]
    go_wp2_with fail
    go_ret
    exact bool_end HN uu2
  by_cases q1 : ¬ x.1.1 = 1700
  · have q1b : (x.1.1 != 1700) = true := by simpa using q1
    have HN : Hid (cacheOk x = false) := by unfold Hid; apply cache_pre; unfold cachePre; simp [q1]
    clear q1
    go_wp2_with fail
    go_ret
    exact bool_end HN uu2
  have Q1 : Hid (x.1.1 = 1700) := Classical.not_not.1 q1
  clear q1
  have q1b : (x.1.1 != 1700) = false := by rw [Q1.out]; rfl
  by_cases q2 : (x.1.2.1.length : Int) < 4
  · have HN : Hid (cacheOk x = false) := by unfold Hid; apply cache_pre; unfold cachePre; simp [q2]
    go_wp2_with fail
    go_ret
    exact bool_end HN uu2
  have q2b : decide ((x.1.2.1.length : Int) < 4) = false := by simpa using q2
  go_wp2_with fail
  refine (c_specTopOk _ x.2.1 _ ⟨_, rfl, mkTop (x := x.2.1) b3 b4 b5 (b6.up good_Seat uu2)⟩).mono ?_
  rintro e w3 ⟨rfl, u3⟩
  have uu3 := uu2.trans u3
  have ka_3 := ka_2.up u3
  have za_3 := ka_3.lt
  clear ga2_0 ga2_1 ga2_2 ga2_3 ga2_4 ga2_5 ga2_6 ga2_7 ga2_8 ga2_9 ga2_10 ga2_11 ga2_12
  have ga3_0 : w3.cell? ⟨w.heap.size, 0, none⟩ = some (.int .i64 x.1.1) := ka_3.cell 0
  have ga3_1 : w3.cell? ⟨w.heap.size, 1, none⟩ = some (.slice A1 x.1.2.1.length c1) := ka_3.cell 1
  have ga3_2 : w3.cell? ⟨w.heap.size, 2, none⟩ = some (.slice A2 x.1.2.2.length c2) := ka_3.cell 2
  have ga3_3 : w3.cell? ⟨w.heap.size, 3, none⟩ = some (.int .i64 x.2.1.1) := ka_3.cell 3
  have ga3_4 : w3.cell? ⟨w.heap.size, 4, none⟩ = some (.int .i64 x.2.1.2.1) := ka_3.cell 4
  have ga3_5 : w3.cell? ⟨w.heap.size, 5, none⟩ = some (.int .i64 x.2.1.2.2.1) := ka_3.cell 5
  have ga3_6 : w3.cell? ⟨w.heap.size, 6, none⟩ = some (.slice A6 x.2.1.2.2.2.length c6) := ka_3.cell 6
  have ga3_7 : w3.cell? ⟨w.heap.size, 7, none⟩ = some (.int .i64 x.2.2.1.1) := ka_3.cell 7
  have ga3_8 : w3.cell? ⟨w.heap.size, 8, none⟩ = some (.int .i64 x.2.2.1.2.1) := ka_3.cell 8
  have ga3_9 : w3.cell? ⟨w.heap.size, 9, none⟩ = some (.int .i64 x.2.2.1.2.2.1) := ka_3.cell 9
  have ga3_10 : w3.cell? ⟨w.heap.size, 10, none⟩ = some (.slice A10 x.2.2.1.2.2.2.length c10) := ka_3.cell 10
  have ga3_11 : w3.cell? ⟨w.heap.size, 11, none⟩ = some (.slice A11 x.2.2.2.1.length c11) := ka_3.cell 11
  have ga3_12 : w3.cell? ⟨w.heap.size, 12, none⟩ = some (.slice A12 x.2.2.2.2.length c12) := ka_3.cell 12
  cases q3 : topOk x.2.1
  · have HN : Hid (cacheOk x = false) := by unfold Hid; apply cache_pre; unfold cachePre; simp [q3]
    go_wp2_with fail
    go_ret
    exact bool_end HN uu3
  go_wp2_with fail
  refine (c_l18Zero _ x.2.2.1 _ ⟨_, rfl, mkTop (x := x.2.2.1) b7 b8 b9 (b10.up good_Seat uu3)⟩).mono ?_
  rintro e w4 ⟨rfl, u4⟩
  have uu4 := uu3.trans u4
  have ka_4 := ka_3.up u4
  have za_4 := ka_4.lt
  clear ga3_0 ga3_1 ga3_2 ga3_3 ga3_4 ga3_5 ga3_6 ga3_7 ga3_8 ga3_9 ga3_10 ga3_11 ga3_12
  have ga4_0 : w4.cell? ⟨w.heap.size, 0, none⟩ = some (.int .i64 x.1.1) := ka_4.cell 0
  have ga4_1 : w4.cell? ⟨w.heap.size, 1, none⟩ = some (.slice A1 x.1.2.1.length c1) := ka_4.cell 1
  have ga4_2 : w4.cell? ⟨w.heap.size, 2, none⟩ = some (.slice A2 x.1.2.2.length c2) := ka_4.cell 2
  have ga4_3 : w4.cell? ⟨w.heap.size, 3, none⟩ = some (.int .i64 x.2.1.1) := ka_4.cell 3
  have ga4_4 : w4.cell? ⟨w.heap.size, 4, none⟩ = some (.int .i64 x.2.1.2.1) := ka_4.cell 4
  have ga4_5 : w4.cell? ⟨w.heap.size, 5, none⟩ = some (.int .i64 x.2.1.2.2.1) := ka_4.cell 5
  have ga4_6 : w4.cell? ⟨w.heap.size, 6, none⟩ = some (.slice A6 x.2.1.2.2.2.length c6) := ka_4.cell 6
  have ga4_7 : w4.cell? ⟨w.heap.size, 7, none⟩ = some (.int .i64 x.2.2.1.1) := ka_4.cell 7
  have ga4_8 : w4.cell? ⟨w.heap.size, 8, none⟩ = some (.int .i64 x.2.2.1.2.1) := ka_4.cell 8
  have ga4_9 : w4.cell? ⟨w.heap.size, 9, none⟩ = some (.int .i64 x.2.2.1.2.2.1) := ka_4.cell 9
  have ga4_10 : w4.cell? ⟨w.heap.size, 10, none⟩ = some (.slice A10 x.2.2.1.2.2.2.length c10) := ka_4.cell 10
  have ga4_11 : w4.cell? ⟨w.heap.size, 11, none⟩ = some (.slice A11 x.2.2.2.1.length c11) := ka_4.cell 11
  have ga4_12 : w4.cell? ⟨w.heap.size, 12, none⟩ = some (.slice A12 x.2.2.2.2.length c12) := ka_4.cell 12
  cases q5 : zeroT x.2.2.1
  · go_wp2_with fail
    refine (c_specTopOk _ x.2.2.1 _ ⟨_, rfl, mkTop (x := x.2.2.1) b7 b8 b9 (b10.up good_Seat uu4)⟩).mono ?_
    rintro e w5 ⟨rfl, u5⟩
    have uu5 := uu4.trans u5
    have ka_5 := ka_4.up u5
    have za_5 := ka_5.lt
    clear ga4_0 ga4_1 ga4_2 ga4_3 ga4_4 ga4_5 ga4_6 ga4_7 ga4_8 ga4_9 ga4_10 ga4_11 ga4_12
    have ga5_0 : w5.cell? ⟨w.heap.size, 0, none⟩ = some (.int .i64 x.1.1) := ka_5.cell 0
    have ga5_1 : w5.cell? ⟨w.heap.size, 1, none⟩ = some (.slice A1 x.1.2.1.length c1) := ka_5.cell 1
    have ga5_2 : w5.cell? ⟨w.heap.size, 2, none⟩ = some (.slice A2 x.1.2.2.length c2) := ka_5.cell 2
    have ga5_3 : w5.cell? ⟨w.heap.size, 3, none⟩ = some (.int .i64 x.2.1.1) := ka_5.cell 3
    have ga5_4 : w5.cell? ⟨w.heap.size, 4, none⟩ = some (.int .i64 x.2.1.2.1) := ka_5.cell 4
    have ga5_5 : w5.cell? ⟨w.heap.size, 5, none⟩ = some (.int .i64 x.2.1.2.2.1) := ka_5.cell 5
    have ga5_6 : w5.cell? ⟨w.heap.size, 6, none⟩ = some (.slice A6 x.2.1.2.2.2.length c6) := ka_5.cell 6
    have ga5_7 : w5.cell? ⟨w.heap.size, 7, none⟩ = some (.int .i64 x.2.2.1.1) := ka_5.cell 7
    have ga5_8 : w5.cell? ⟨w.heap.size, 8, none⟩ = some (.int .i64 x.2.2.1.2.1) := ka_5.cell 8
    have ga5_9 : w5.cell? ⟨w.heap.size, 9, none⟩ = some (.int .i64 x.2.2.1.2.2.1) := ka_5.cell 9
    have ga5_10 : w5.cell? ⟨w.heap.size, 10, none⟩ = some (.slice A10 x.2.2.1.2.2.2.length c10) := ka_5.cell 10
    have ga5_11 : w5.cell? ⟨w.heap.size, 11, none⟩ = some (.slice A11 x.2.2.2.1.length c11) := ka_5.cell 11
    have ga5_12 : w5.cell? ⟨w.heap.size, 12, none⟩ = some (.slice A12 x.2.2.2.2.length c12) := ka_5.cell 12
    cases q4 : topOk x.2.2.1
    · have HN : Hid (cacheOk x = false) := by unfold Hid; apply cache_pre; unfold cachePre; simp [q4, q5]
      go_wp2_with fail
      go_ret
      exact bool_end HN uu5
    have HZ : Hid ((topOk x.2.2.1 || zeroT x.2.2.1) = true) := by unfold Hid; rw [q4]; simp
    have HC : Hid (∀ s ∈ x.2.2.1.2.2.2, 2 ≤ s.2) := seats_pos (top_seats q4)
    go_wp2_with fail
    refine (c_l18Seats _ _ _ _ (b11.up good_Seat uu5)).mono ?_
    rintro e w6 ⟨rfl, u6⟩
    have uu6 := uu5.trans u6
    have ka_6 := ka_5.up u6
    have za_6 := ka_6.lt
    clear ga5_0 ga5_1 ga5_2 ga5_3 ga5_4 ga5_5 ga5_6 ga5_7 ga5_8 ga5_9 ga5_10 ga5_11 ga5_12
    have ga6_0 : w6.cell? ⟨w.heap.size, 0, none⟩ = some (.int .i64 x.1.1) := ka_6.cell 0
    have ga6_1 : w6.cell? ⟨w.heap.size, 1, none⟩ = some (.slice A1 x.1.2.1.length c1) := ka_6.cell 1
    have ga6_2 : w6.cell? ⟨w.heap.size, 2, none⟩ = some (.slice A2 x.1.2.2.length c2) := ka_6.cell 2
    have ga6_3 : w6.cell? ⟨w.heap.size, 3, none⟩ = some (.int .i64 x.2.1.1) := ka_6.cell 3
    have ga6_4 : w6.cell? ⟨w.heap.size, 4, none⟩ = some (.int .i64 x.2.1.2.1) := ka_6.cell 4
    have ga6_5 : w6.cell? ⟨w.heap.size, 5, none⟩ = some (.int .i64 x.2.1.2.2.1) := ka_6.cell 5
    have ga6_6 : w6.cell? ⟨w.heap.size, 6, none⟩ = some (.slice A6 x.2.1.2.2.2.length c6) := ka_6.cell 6
    have ga6_7 : w6.cell? ⟨w.heap.size, 7, none⟩ = some (.int .i64 x.2.2.1.1) := ka_6.cell 7
    have ga6_8 : w6.cell? ⟨w.heap.size, 8, none⟩ = some (.int .i64 x.2.2.1.2.1) := ka_6.cell 8
    have ga6_9 : w6.cell? ⟨w.heap.size, 9, none⟩ = some (.int .i64 x.2.2.1.2.2.1) := ka_6.cell 9
    have ga6_10 : w6.cell? ⟨w.heap.size, 10, none⟩ = some (.slice A10 x.2.2.1.2.2.2.length c10) := ka_6.cell 10
    have ga6_11 : w6.cell? ⟨w.heap.size, 11, none⟩ = some (.slice A11 x.2.2.2.1.length c11) := ka_6.cell 11
    have ga6_12 : w6.cell? ⟨w.heap.size, 12, none⟩ = some (.slice A12 x.2.2.2.2.length c12) := ka_6.cell 12
    cases q6 : seatsOk x.2.2.2.1
    · have HN : Hid (cacheOk x = false) := by unfold Hid; apply cache_pre; unfold cachePre; simp [q6]
      go_wp2_with fail
      go_ret
      exact bool_end HN uu6
    have HP : Hid (cachePre x = true) := by unfold Hid cachePre; rw [q0, Q1.out, q2b, q3, HZ.out, q6]; rfl
    have HB : Hid ((belowS x.2.1.2.2.2 x.1.2.1.length && belowS x.2.2.1.2.2.2 x.1.2.1.length && belowS x.2.2.2.1 x.1.2.1.length) = !(x.2.1.2.2.2 ++ x.2.2.1.2.2.2 ++ x.2.2.2.1).any (badSlot x.1.2.1.length)) := by
      unfold Hid
      rw [below_bad (seats_pos (top_seats q3)), below_bad (seats_pos q6), below_bad HC.out, List.any_append, List.any_append]
      cases List.any x.2.1.2.2.2 (badSlot x.1.2.1.length) <;> cases List.any x.2.2.1.2.2.2 (badSlot x.1.2.1.length) <;> cases List.any x.2.2.2.1 (badSlot x.1.2.1.length) <;> rfl
    go_wp2_with fail
    refine (c_l00Rises _ _ _ _ _ _ (b12.up good_I uu6)).mono ?_
    rintro e w7 ⟨rfl, u7⟩
    have uu7 := uu6.trans u7
    have ka_7 := ka_6.up u7
    have za_7 := ka_7.lt
    clear ga6_0 ga6_1 ga6_2 ga6_3 ga6_4 ga6_5 ga6_6 ga6_7 ga6_8 ga6_9 ga6_10 ga6_11 ga6_12
    have ga7_0 : w7.cell? ⟨w.heap.size, 0, none⟩ = some (.int .i64 x.1.1) := ka_7.cell 0
    have ga7_1 : w7.cell? ⟨w.heap.size, 1, none⟩ = some (.slice A1 x.1.2.1.length c1) := ka_7.cell 1
    have ga7_2 : w7.cell? ⟨w.heap.size, 2, none⟩ = some (.slice A2 x.1.2.2.length c2) := ka_7.cell 2
    have ga7_3 : w7.cell? ⟨w.heap.size, 3, none⟩ = some (.int .i64 x.2.1.1) := ka_7.cell 3
    have ga7_4 : w7.cell? ⟨w.heap.size, 4, none⟩ = some (.int .i64 x.2.1.2.1) := ka_7.cell 4
    have ga7_5 : w7.cell? ⟨w.heap.size, 5, none⟩ = some (.int .i64 x.2.1.2.2.1) := ka_7.cell 5
    have ga7_6 : w7.cell? ⟨w.heap.size, 6, none⟩ = some (.slice A6 x.2.1.2.2.2.length c6) := ka_7.cell 6
    have ga7_7 : w7.cell? ⟨w.heap.size, 7, none⟩ = some (.int .i64 x.2.2.1.1) := ka_7.cell 7
    have ga7_8 : w7.cell? ⟨w.heap.size, 8, none⟩ = some (.int .i64 x.2.2.1.2.1) := ka_7.cell 8
    have ga7_9 : w7.cell? ⟨w.heap.size, 9, none⟩ = some (.int .i64 x.2.2.1.2.2.1) := ka_7.cell 9
    have ga7_10 : w7.cell? ⟨w.heap.size, 10, none⟩ = some (.slice A10 x.2.2.1.2.2.2.length c10) := ka_7.cell 10
    have ga7_11 : w7.cell? ⟨w.heap.size, 11, none⟩ = some (.slice A11 x.2.2.2.1.length c11) := ka_7.cell 11
    have ga7_12 : w7.cell? ⟨w.heap.size, 12, none⟩ = some (.slice A12 x.2.2.2.2.length c12) := ka_7.cell 12
    cases q9 : (risB x.2.2.2.2 && allIn x.2.2.2.2 1 64)
    · have HN : Hid (cacheOk x = false) := by unfold Hid; unfold cacheOk; rw [q9]; simp
      go_wp2_with fail
      go_ret
      exact bool_end HN uu7
    go_wp2_with fail
    clear ga7_0 ga7_1 ga7_2 ga7_3 ga7_4 ga7_5 ga7_6 ga7_7 ga7_8 ga7_9 ga7_10 ga7_11 ga7_12
    go_loopw [4] (fun i wr => ∃ k : Nat, k ≤ x.2.2.2.1.length ∧ i = .int .i64 k ∧ Hid ((x.2.2.2.1.take k).any (fun s => hasS x.2.1.2.2.2 s.2) = false) ∧ Up w wr ∧ Bk wr w.heap.size 75 #[.int .i64 x.1.1, .slice A1 x.1.2.1.length c1, .slice A2 x.1.2.2.length c2, .int .i64 x.2.1.1, .int .i64 x.2.1.2.1, .int .i64 x.2.1.2.2.1, .slice A6 x.2.1.2.2.2.length c6, .int .i64 x.2.2.1.1, .int .i64 x.2.2.1.2.1, .int .i64 x.2.2.1.2.2.1, .slice A10 x.2.2.1.2.2.2.length c10, .slice A11 x.2.2.2.1.length c11, .slice A12 x.2.2.2.2.length c12]) (fun i _ => x.2.2.2.1.length - (intOf i).toNat)
    case atStart => exact ⟨0, Nat.zero_le _, rfl, rfl, uu7, ka_7⟩
    case round =>
      obtain ⟨k, hk, rfl, HT, hu, kA⟩ := hrel
      have zA := kA.lt
      have ga40_0 : wr.cell? ⟨w.heap.size, 0, none⟩ = some (.int .i64 x.1.1) := kA.cell 0
      have ga40_1 : wr.cell? ⟨w.heap.size, 1, none⟩ = some (.slice A1 x.1.2.1.length c1) := kA.cell 1
      have ga40_2 : wr.cell? ⟨w.heap.size, 2, none⟩ = some (.slice A2 x.1.2.2.length c2) := kA.cell 2
      have ga40_3 : wr.cell? ⟨w.heap.size, 3, none⟩ = some (.int .i64 x.2.1.1) := kA.cell 3
      have ga40_4 : wr.cell? ⟨w.heap.size, 4, none⟩ = some (.int .i64 x.2.1.2.1) := kA.cell 4
      have ga40_5 : wr.cell? ⟨w.heap.size, 5, none⟩ = some (.int .i64 x.2.1.2.2.1) := kA.cell 5
      have ga40_6 : wr.cell? ⟨w.heap.size, 6, none⟩ = some (.slice A6 x.2.1.2.2.2.length c6) := kA.cell 6
      have ga40_7 : wr.cell? ⟨w.heap.size, 7, none⟩ = some (.int .i64 x.2.2.1.1) := kA.cell 7
      have ga40_8 : wr.cell? ⟨w.heap.size, 8, none⟩ = some (.int .i64 x.2.2.1.2.1) := kA.cell 8
      have ga40_9 : wr.cell? ⟨w.heap.size, 9, none⟩ = some (.int .i64 x.2.2.1.2.2.1) := kA.cell 9
      have ga40_10 : wr.cell? ⟨w.heap.size, 10, none⟩ = some (.slice A10 x.2.2.1.2.2.2.length c10) := kA.cell 10
      have ga40_11 : wr.cell? ⟨w.heap.size, 11, none⟩ = some (.slice A11 x.2.2.2.1.length c11) := kA.cell 11
      have ga40_12 : wr.cell? ⟨w.heap.size, 12, none⟩ = some (.slice A12 x.2.2.2.2.length c12) := kA.cell 12
      by_cases hlt : k < x.2.2.2.1.length
      · have bk := b11.up good_Seat hu
        obtain ⟨g, off, rfl, _, hgl, hc0, hc1, e0, e1, _⟩ := atSeat bk hlt
        have t6 := fun t : UpT wr => cell_up t (kA.cell 6 : wr.cell? ⟨w.heap.size, 6, none⟩ = some (.slice A6 x.2.1.2.2.2.length c6))
        have t11 := fun t : UpT wr => cell_up t (kA.cell 11 : wr.cell? ⟨w.heap.size, 11, none⟩ = some (.slice (some ⟨g, off, none⟩) x.2.2.2.1.length c11))
        have tc := fun t : UpT wr => cell_up t hc1
        cases q : hasS x.2.1.2.2.2 x.2.2.2.1[k].2
        · have HN : Hid ((x.2.2.2.1.take (k + 1)).any (fun s => hasS x.2.1.2.2.2 s.2) = false) := by unfold Hid; rw [any_take_succ _ _ k hlt, HT.out, q]; rfl
          go_wp2_with fail
          refine wp_region_up (by kernel_rfl) (by kernel_rfl) ?_
          repeat (go_big_quiet_step ((go_at_call 160; exact up_bool (c_l18Uses x.2.1.2.2.2 A6 c6 _ _ (b6.up good_Seat (hu.trans (UpT.up _)))) q (UpT.up _))))
          refine wpQuiet_nil ?_
          rintro _ ⟨⟨w1, u1⟩, rfl⟩
          go_wp2_with fail
          go_roundw
          case rel => exact ⟨k + 1, by omega, by go_num, HN, hu.trans u1, kA.up u1⟩
          case measure => simp [intOf]; omega
        have HN : Hid (cacheOk x = false) := by unfold Hid cacheOk; rw [any_at (fun s : TSeat => hasS x.2.1.2.2.2 s.2) x.2.2.2.1 k hlt q]; simp
        go_wp2_with fail
        refine wp_region_up (by kernel_rfl) (by kernel_rfl) ?_
        repeat (go_big_quiet_step ((go_at_call 160; exact up_bool (c_l18Uses x.2.1.2.2.2 A6 c6 _ _ (b6.up good_Seat (hu.trans (UpT.up _)))) q (UpT.up _))))
        refine wpQuiet_nil ?_
        rintro _ ⟨⟨w1, u1⟩, rfl⟩
        go_wp2_with fail
        go_ret
        exact bool_end HN (hu.trans u1)
      · have H8 : Hid (x.2.2.2.1.any (fun s => hasS x.2.1.2.2.2 s.2) = false) := any_all _ _ k HT.out (by omega)
        have HN : Hid (cacheOk x = (belowS x.2.1.2.2.2 x.1.2.1.length && belowS x.2.2.1.2.2.2 x.1.2.1.length && belowS x.2.2.2.1 x.1.2.1.length)) := by unfold Hid cacheOk; rw [HB.out, HP.out, H8.out, q9]; simp
        go_wp2_with fail
        refine (c_l18Below _ _ _ _ _ (b6.up good_Seat hu)).mono ?_
        rintro e w41 ⟨rfl, u41⟩
        have uu41 := hu.trans u41
        have ka_41 := kA.up u41
        have za_41 := ka_41.lt
        clear ga40_0 ga40_1 ga40_2 ga40_3 ga40_4 ga40_5 ga40_6 ga40_7 ga40_8 ga40_9 ga40_10 ga40_11 ga40_12
        have ga41_0 : w41.cell? ⟨w.heap.size, 0, none⟩ = some (.int .i64 x.1.1) := ka_41.cell 0
        have ga41_1 : w41.cell? ⟨w.heap.size, 1, none⟩ = some (.slice A1 x.1.2.1.length c1) := ka_41.cell 1
        have ga41_2 : w41.cell? ⟨w.heap.size, 2, none⟩ = some (.slice A2 x.1.2.2.length c2) := ka_41.cell 2
        have ga41_3 : w41.cell? ⟨w.heap.size, 3, none⟩ = some (.int .i64 x.2.1.1) := ka_41.cell 3
        have ga41_4 : w41.cell? ⟨w.heap.size, 4, none⟩ = some (.int .i64 x.2.1.2.1) := ka_41.cell 4
        have ga41_5 : w41.cell? ⟨w.heap.size, 5, none⟩ = some (.int .i64 x.2.1.2.2.1) := ka_41.cell 5
        have ga41_6 : w41.cell? ⟨w.heap.size, 6, none⟩ = some (.slice A6 x.2.1.2.2.2.length c6) := ka_41.cell 6
        have ga41_7 : w41.cell? ⟨w.heap.size, 7, none⟩ = some (.int .i64 x.2.2.1.1) := ka_41.cell 7
        have ga41_8 : w41.cell? ⟨w.heap.size, 8, none⟩ = some (.int .i64 x.2.2.1.2.1) := ka_41.cell 8
        have ga41_9 : w41.cell? ⟨w.heap.size, 9, none⟩ = some (.int .i64 x.2.2.1.2.2.1) := ka_41.cell 9
        have ga41_10 : w41.cell? ⟨w.heap.size, 10, none⟩ = some (.slice A10 x.2.2.1.2.2.2.length c10) := ka_41.cell 10
        have ga41_11 : w41.cell? ⟨w.heap.size, 11, none⟩ = some (.slice A11 x.2.2.2.1.length c11) := ka_41.cell 11
        have ga41_12 : w41.cell? ⟨w.heap.size, 12, none⟩ = some (.slice A12 x.2.2.2.2.length c12) := ka_41.cell 12
        cases p1 : belowS x.2.1.2.2.2 x.1.2.1.length
        · have HM : Hid (cacheOk x = false) := by unfold Hid; rw [HN.out, p1]; simp
          go_wp2_with fail
          go_ret
          exact bool_end HM uu41
        go_wp2_with fail
        refine (c_l18Below _ _ _ _ _ (b10.up good_Seat uu41)).mono ?_
        rintro e w42 ⟨rfl, u42⟩
        have uu42 := uu41.trans u42
        have ka_42 := ka_41.up u42
        have za_42 := ka_42.lt
        clear ga41_0 ga41_1 ga41_2 ga41_3 ga41_4 ga41_5 ga41_6 ga41_7 ga41_8 ga41_9 ga41_10 ga41_11 ga41_12
        have ga42_0 : w42.cell? ⟨w.heap.size, 0, none⟩ = some (.int .i64 x.1.1) := ka_42.cell 0
        have ga42_1 : w42.cell? ⟨w.heap.size, 1, none⟩ = some (.slice A1 x.1.2.1.length c1) := ka_42.cell 1
        have ga42_2 : w42.cell? ⟨w.heap.size, 2, none⟩ = some (.slice A2 x.1.2.2.length c2) := ka_42.cell 2
        have ga42_3 : w42.cell? ⟨w.heap.size, 3, none⟩ = some (.int .i64 x.2.1.1) := ka_42.cell 3
        have ga42_4 : w42.cell? ⟨w.heap.size, 4, none⟩ = some (.int .i64 x.2.1.2.1) := ka_42.cell 4
        have ga42_5 : w42.cell? ⟨w.heap.size, 5, none⟩ = some (.int .i64 x.2.1.2.2.1) := ka_42.cell 5
        have ga42_6 : w42.cell? ⟨w.heap.size, 6, none⟩ = some (.slice A6 x.2.1.2.2.2.length c6) := ka_42.cell 6
        have ga42_7 : w42.cell? ⟨w.heap.size, 7, none⟩ = some (.int .i64 x.2.2.1.1) := ka_42.cell 7
        have ga42_8 : w42.cell? ⟨w.heap.size, 8, none⟩ = some (.int .i64 x.2.2.1.2.1) := ka_42.cell 8
        have ga42_9 : w42.cell? ⟨w.heap.size, 9, none⟩ = some (.int .i64 x.2.2.1.2.2.1) := ka_42.cell 9
        have ga42_10 : w42.cell? ⟨w.heap.size, 10, none⟩ = some (.slice A10 x.2.2.1.2.2.2.length c10) := ka_42.cell 10
        have ga42_11 : w42.cell? ⟨w.heap.size, 11, none⟩ = some (.slice A11 x.2.2.2.1.length c11) := ka_42.cell 11
        have ga42_12 : w42.cell? ⟨w.heap.size, 12, none⟩ = some (.slice A12 x.2.2.2.2.length c12) := ka_42.cell 12
        cases p2 : belowS x.2.2.1.2.2.2 x.1.2.1.length
        · have HM : Hid (cacheOk x = false) := by unfold Hid; rw [HN.out, p2]; simp
          go_wp2_with fail
          go_ret
          exact bool_end HM uu42
        have HM : Hid (cacheOk x = belowS x.2.2.2.1 x.1.2.1.length) := by unfold Hid; rw [HN.out, p1, p2]; simp
        go_wp2_with fail
        refine (c_l18Below _ _ _ _ _ (b11.up good_Seat uu42)).mono ?_
        rintro e w43 ⟨rfl, u43⟩
        have uu43 := uu42.trans u43
        have ka_43 := ka_42.up u43
        have za_43 := ka_43.lt
        clear ga42_0 ga42_1 ga42_2 ga42_3 ga42_4 ga42_5 ga42_6 ga42_7 ga42_8 ga42_9 ga42_10 ga42_11 ga42_12
        go_wp2_with fail
        go_ret
        exact bool_end HM uu43
  have HZ : Hid ((topOk x.2.2.1 || zeroT x.2.2.1) = true) := by unfold Hid; rw [q5]; simp
  have HC : Hid (∀ s ∈ x.2.2.1.2.2.2, 2 ≤ s.2) := by unfold Hid; rw [zeroT_seats q5]; simp
  go_wp2_with fail
  refine (c_l18Seats _ _ _ _ (b11.up good_Seat uu4)).mono ?_
  rintro e w5 ⟨rfl, u5⟩
  have uu5 := uu4.trans u5
  have ka_5 := ka_4.up u5
  have za_5 := ka_5.lt
  clear ga4_0 ga4_1 ga4_2 ga4_3 ga4_4 ga4_5 ga4_6 ga4_7 ga4_8 ga4_9 ga4_10 ga4_11 ga4_12
  have ga5_0 : w5.cell? ⟨w.heap.size, 0, none⟩ = some (.int .i64 x.1.1) := ka_5.cell 0
  have ga5_1 : w5.cell? ⟨w.heap.size, 1, none⟩ = some (.slice A1 x.1.2.1.length c1) := ka_5.cell 1
  have ga5_2 : w5.cell? ⟨w.heap.size, 2, none⟩ = some (.slice A2 x.1.2.2.length c2) := ka_5.cell 2
  have ga5_3 : w5.cell? ⟨w.heap.size, 3, none⟩ = some (.int .i64 x.2.1.1) := ka_5.cell 3
  have ga5_4 : w5.cell? ⟨w.heap.size, 4, none⟩ = some (.int .i64 x.2.1.2.1) := ka_5.cell 4
  have ga5_5 : w5.cell? ⟨w.heap.size, 5, none⟩ = some (.int .i64 x.2.1.2.2.1) := ka_5.cell 5
  have ga5_6 : w5.cell? ⟨w.heap.size, 6, none⟩ = some (.slice A6 x.2.1.2.2.2.length c6) := ka_5.cell 6
  have ga5_7 : w5.cell? ⟨w.heap.size, 7, none⟩ = some (.int .i64 x.2.2.1.1) := ka_5.cell 7
  have ga5_8 : w5.cell? ⟨w.heap.size, 8, none⟩ = some (.int .i64 x.2.2.1.2.1) := ka_5.cell 8
  have ga5_9 : w5.cell? ⟨w.heap.size, 9, none⟩ = some (.int .i64 x.2.2.1.2.2.1) := ka_5.cell 9
  have ga5_10 : w5.cell? ⟨w.heap.size, 10, none⟩ = some (.slice A10 x.2.2.1.2.2.2.length c10) := ka_5.cell 10
  have ga5_11 : w5.cell? ⟨w.heap.size, 11, none⟩ = some (.slice A11 x.2.2.2.1.length c11) := ka_5.cell 11
  have ga5_12 : w5.cell? ⟨w.heap.size, 12, none⟩ = some (.slice A12 x.2.2.2.2.length c12) := ka_5.cell 12
  cases q6 : seatsOk x.2.2.2.1
  · have HN : Hid (cacheOk x = false) := by unfold Hid; apply cache_pre; unfold cachePre; simp [q6]
    go_wp2_with fail
    go_ret
    exact bool_end HN uu5
  have HP : Hid (cachePre x = true) := by unfold Hid cachePre; rw [q0, Q1.out, q2b, q3, HZ.out, q6]; rfl
  have HB : Hid ((belowS x.2.1.2.2.2 x.1.2.1.length && belowS x.2.2.1.2.2.2 x.1.2.1.length && belowS x.2.2.2.1 x.1.2.1.length) = !(x.2.1.2.2.2 ++ x.2.2.1.2.2.2 ++ x.2.2.2.1).any (badSlot x.1.2.1.length)) := by
    unfold Hid
    rw [below_bad (seats_pos (top_seats q3)), below_bad (seats_pos q6), below_bad HC.out, List.any_append, List.any_append]
    cases List.any x.2.1.2.2.2 (badSlot x.1.2.1.length) <;> cases List.any x.2.2.1.2.2.2 (badSlot x.1.2.1.length) <;> cases List.any x.2.2.2.1 (badSlot x.1.2.1.length) <;> rfl
  go_wp2_with fail
  refine (c_l00Rises _ _ _ _ _ _ (b12.up good_I uu5)).mono ?_
  rintro e w6 ⟨rfl, u6⟩
  have uu6 := uu5.trans u6
  have ka_6 := ka_5.up u6
  have za_6 := ka_6.lt
  clear ga5_0 ga5_1 ga5_2 ga5_3 ga5_4 ga5_5 ga5_6 ga5_7 ga5_8 ga5_9 ga5_10 ga5_11 ga5_12
  have ga6_0 : w6.cell? ⟨w.heap.size, 0, none⟩ = some (.int .i64 x.1.1) := ka_6.cell 0
  have ga6_1 : w6.cell? ⟨w.heap.size, 1, none⟩ = some (.slice A1 x.1.2.1.length c1) := ka_6.cell 1
  have ga6_2 : w6.cell? ⟨w.heap.size, 2, none⟩ = some (.slice A2 x.1.2.2.length c2) := ka_6.cell 2
  have ga6_3 : w6.cell? ⟨w.heap.size, 3, none⟩ = some (.int .i64 x.2.1.1) := ka_6.cell 3
  have ga6_4 : w6.cell? ⟨w.heap.size, 4, none⟩ = some (.int .i64 x.2.1.2.1) := ka_6.cell 4
  have ga6_5 : w6.cell? ⟨w.heap.size, 5, none⟩ = some (.int .i64 x.2.1.2.2.1) := ka_6.cell 5
  have ga6_6 : w6.cell? ⟨w.heap.size, 6, none⟩ = some (.slice A6 x.2.1.2.2.2.length c6) := ka_6.cell 6
  have ga6_7 : w6.cell? ⟨w.heap.size, 7, none⟩ = some (.int .i64 x.2.2.1.1) := ka_6.cell 7
  have ga6_8 : w6.cell? ⟨w.heap.size, 8, none⟩ = some (.int .i64 x.2.2.1.2.1) := ka_6.cell 8
  have ga6_9 : w6.cell? ⟨w.heap.size, 9, none⟩ = some (.int .i64 x.2.2.1.2.2.1) := ka_6.cell 9
  have ga6_10 : w6.cell? ⟨w.heap.size, 10, none⟩ = some (.slice A10 x.2.2.1.2.2.2.length c10) := ka_6.cell 10
  have ga6_11 : w6.cell? ⟨w.heap.size, 11, none⟩ = some (.slice A11 x.2.2.2.1.length c11) := ka_6.cell 11
  have ga6_12 : w6.cell? ⟨w.heap.size, 12, none⟩ = some (.slice A12 x.2.2.2.2.length c12) := ka_6.cell 12
  cases q9 : (risB x.2.2.2.2 && allIn x.2.2.2.2 1 64)
  · have HN : Hid (cacheOk x = false) := by unfold Hid; unfold cacheOk; rw [q9]; simp
    go_wp2_with fail
    go_ret
    exact bool_end HN uu6
  go_wp2_with fail
  clear ga6_0 ga6_1 ga6_2 ga6_3 ga6_4 ga6_5 ga6_6 ga6_7 ga6_8 ga6_9 ga6_10 ga6_11 ga6_12
  go_loopw [4] (fun i wr => ∃ k : Nat, k ≤ x.2.2.2.1.length ∧ i = .int .i64 k ∧ Hid ((x.2.2.2.1.take k).any (fun s => hasS x.2.1.2.2.2 s.2) = false) ∧ Up w wr ∧ Bk wr w.heap.size 75 #[.int .i64 x.1.1, .slice A1 x.1.2.1.length c1, .slice A2 x.1.2.2.length c2, .int .i64 x.2.1.1, .int .i64 x.2.1.2.1, .int .i64 x.2.1.2.2.1, .slice A6 x.2.1.2.2.2.length c6, .int .i64 x.2.2.1.1, .int .i64 x.2.2.1.2.1, .int .i64 x.2.2.1.2.2.1, .slice A10 x.2.2.1.2.2.2.length c10, .slice A11 x.2.2.2.1.length c11, .slice A12 x.2.2.2.2.length c12]) (fun i _ => x.2.2.2.1.length - (intOf i).toNat)
  case atStart => exact ⟨0, Nat.zero_le _, rfl, rfl, uu6, ka_6⟩
  case round =>
    obtain ⟨k, hk, rfl, HT, hu, kA⟩ := hrel
    have zA := kA.lt
    have ga40_0 : wr.cell? ⟨w.heap.size, 0, none⟩ = some (.int .i64 x.1.1) := kA.cell 0
    have ga40_1 : wr.cell? ⟨w.heap.size, 1, none⟩ = some (.slice A1 x.1.2.1.length c1) := kA.cell 1
    have ga40_2 : wr.cell? ⟨w.heap.size, 2, none⟩ = some (.slice A2 x.1.2.2.length c2) := kA.cell 2
    have ga40_3 : wr.cell? ⟨w.heap.size, 3, none⟩ = some (.int .i64 x.2.1.1) := kA.cell 3
    have ga40_4 : wr.cell? ⟨w.heap.size, 4, none⟩ = some (.int .i64 x.2.1.2.1) := kA.cell 4
    have ga40_5 : wr.cell? ⟨w.heap.size, 5, none⟩ = some (.int .i64 x.2.1.2.2.1) := kA.cell 5
    have ga40_6 : wr.cell? ⟨w.heap.size, 6, none⟩ = some (.slice A6 x.2.1.2.2.2.length c6) := kA.cell 6
    have ga40_7 : wr.cell? ⟨w.heap.size, 7, none⟩ = some (.int .i64 x.2.2.1.1) := kA.cell 7
    have ga40_8 : wr.cell? ⟨w.heap.size, 8, none⟩ = some (.int .i64 x.2.2.1.2.1) := kA.cell 8
    have ga40_9 : wr.cell? ⟨w.heap.size, 9, none⟩ = some (.int .i64 x.2.2.1.2.2.1) := kA.cell 9
    have ga40_10 : wr.cell? ⟨w.heap.size, 10, none⟩ = some (.slice A10 x.2.2.1.2.2.2.length c10) := kA.cell 10
    have ga40_11 : wr.cell? ⟨w.heap.size, 11, none⟩ = some (.slice A11 x.2.2.2.1.length c11) := kA.cell 11
    have ga40_12 : wr.cell? ⟨w.heap.size, 12, none⟩ = some (.slice A12 x.2.2.2.2.length c12) := kA.cell 12
    by_cases hlt : k < x.2.2.2.1.length
    · have bk := b11.up good_Seat hu
      obtain ⟨g, off, rfl, _, hgl, hc0, hc1, e0, e1, _⟩ := atSeat bk hlt
      have t6 := fun t : UpT wr => cell_up t (kA.cell 6 : wr.cell? ⟨w.heap.size, 6, none⟩ = some (.slice A6 x.2.1.2.2.2.length c6))
      have t11 := fun t : UpT wr => cell_up t (kA.cell 11 : wr.cell? ⟨w.heap.size, 11, none⟩ = some (.slice (some ⟨g, off, none⟩) x.2.2.2.1.length c11))
      have tc := fun t : UpT wr => cell_up t hc1
      cases q : hasS x.2.1.2.2.2 x.2.2.2.1[k].2
      · have HN : Hid ((x.2.2.2.1.take (k + 1)).any (fun s => hasS x.2.1.2.2.2 s.2) = false) := by unfold Hid; rw [any_take_succ _ _ k hlt, HT.out, q]; rfl
        go_wp2_with fail
        refine wp_region_up (by kernel_rfl) (by kernel_rfl) ?_
        repeat (go_big_quiet_step ((go_at_call 160; exact up_bool (c_l18Uses x.2.1.2.2.2 A6 c6 _ _ (b6.up good_Seat (hu.trans (UpT.up _)))) q (UpT.up _))))
        refine wpQuiet_nil ?_
        rintro _ ⟨⟨w1, u1⟩, rfl⟩
        go_wp2_with fail
        go_roundw
        case rel => exact ⟨k + 1, by omega, by go_num, HN, hu.trans u1, kA.up u1⟩
        case measure => simp [intOf]; omega
      have HN : Hid (cacheOk x = false) := by unfold Hid cacheOk; rw [any_at (fun s : TSeat => hasS x.2.1.2.2.2 s.2) x.2.2.2.1 k hlt q]; simp
      go_wp2_with fail
      refine wp_region_up (by kernel_rfl) (by kernel_rfl) ?_
      repeat (go_big_quiet_step ((go_at_call 160; exact up_bool (c_l18Uses x.2.1.2.2.2 A6 c6 _ _ (b6.up good_Seat (hu.trans (UpT.up _)))) q (UpT.up _))))
      refine wpQuiet_nil ?_
      rintro _ ⟨⟨w1, u1⟩, rfl⟩
      go_wp2_with fail
      go_ret
      exact bool_end HN (hu.trans u1)
    · have H8 : Hid (x.2.2.2.1.any (fun s => hasS x.2.1.2.2.2 s.2) = false) := any_all _ _ k HT.out (by omega)
      have HN : Hid (cacheOk x = (belowS x.2.1.2.2.2 x.1.2.1.length && belowS x.2.2.1.2.2.2 x.1.2.1.length && belowS x.2.2.2.1 x.1.2.1.length)) := by unfold Hid cacheOk; rw [HB.out, HP.out, H8.out, q9]; simp
      go_wp2_with fail
      refine (c_l18Below _ _ _ _ _ (b6.up good_Seat hu)).mono ?_
      rintro e w41 ⟨rfl, u41⟩
      have uu41 := hu.trans u41
      have ka_41 := kA.up u41
      have za_41 := ka_41.lt
      clear ga40_0 ga40_1 ga40_2 ga40_3 ga40_4 ga40_5 ga40_6 ga40_7 ga40_8 ga40_9 ga40_10 ga40_11 ga40_12
      have ga41_0 : w41.cell? ⟨w.heap.size, 0, none⟩ = some (.int .i64 x.1.1) := ka_41.cell 0
      have ga41_1 : w41.cell? ⟨w.heap.size, 1, none⟩ = some (.slice A1 x.1.2.1.length c1) := ka_41.cell 1
      have ga41_2 : w41.cell? ⟨w.heap.size, 2, none⟩ = some (.slice A2 x.1.2.2.length c2) := ka_41.cell 2
      have ga41_3 : w41.cell? ⟨w.heap.size, 3, none⟩ = some (.int .i64 x.2.1.1) := ka_41.cell 3
      have ga41_4 : w41.cell? ⟨w.heap.size, 4, none⟩ = some (.int .i64 x.2.1.2.1) := ka_41.cell 4
      have ga41_5 : w41.cell? ⟨w.heap.size, 5, none⟩ = some (.int .i64 x.2.1.2.2.1) := ka_41.cell 5
      have ga41_6 : w41.cell? ⟨w.heap.size, 6, none⟩ = some (.slice A6 x.2.1.2.2.2.length c6) := ka_41.cell 6
      have ga41_7 : w41.cell? ⟨w.heap.size, 7, none⟩ = some (.int .i64 x.2.2.1.1) := ka_41.cell 7
      have ga41_8 : w41.cell? ⟨w.heap.size, 8, none⟩ = some (.int .i64 x.2.2.1.2.1) := ka_41.cell 8
      have ga41_9 : w41.cell? ⟨w.heap.size, 9, none⟩ = some (.int .i64 x.2.2.1.2.2.1) := ka_41.cell 9
      have ga41_10 : w41.cell? ⟨w.heap.size, 10, none⟩ = some (.slice A10 x.2.2.1.2.2.2.length c10) := ka_41.cell 10
      have ga41_11 : w41.cell? ⟨w.heap.size, 11, none⟩ = some (.slice A11 x.2.2.2.1.length c11) := ka_41.cell 11
      have ga41_12 : w41.cell? ⟨w.heap.size, 12, none⟩ = some (.slice A12 x.2.2.2.2.length c12) := ka_41.cell 12
      cases p1 : belowS x.2.1.2.2.2 x.1.2.1.length
      · have HM : Hid (cacheOk x = false) := by unfold Hid; rw [HN.out, p1]; simp
        go_wp2_with fail
        go_ret
        exact bool_end HM uu41
      go_wp2_with fail
      refine (c_l18Below _ _ _ _ _ (b10.up good_Seat uu41)).mono ?_
      rintro e w42 ⟨rfl, u42⟩
      have uu42 := uu41.trans u42
      have ka_42 := ka_41.up u42
      have za_42 := ka_42.lt
      clear ga41_0 ga41_1 ga41_2 ga41_3 ga41_4 ga41_5 ga41_6 ga41_7 ga41_8 ga41_9 ga41_10 ga41_11 ga41_12
      have ga42_0 : w42.cell? ⟨w.heap.size, 0, none⟩ = some (.int .i64 x.1.1) := ka_42.cell 0
      have ga42_1 : w42.cell? ⟨w.heap.size, 1, none⟩ = some (.slice A1 x.1.2.1.length c1) := ka_42.cell 1
      have ga42_2 : w42.cell? ⟨w.heap.size, 2, none⟩ = some (.slice A2 x.1.2.2.length c2) := ka_42.cell 2
      have ga42_3 : w42.cell? ⟨w.heap.size, 3, none⟩ = some (.int .i64 x.2.1.1) := ka_42.cell 3
      have ga42_4 : w42.cell? ⟨w.heap.size, 4, none⟩ = some (.int .i64 x.2.1.2.1) := ka_42.cell 4
      have ga42_5 : w42.cell? ⟨w.heap.size, 5, none⟩ = some (.int .i64 x.2.1.2.2.1) := ka_42.cell 5
      have ga42_6 : w42.cell? ⟨w.heap.size, 6, none⟩ = some (.slice A6 x.2.1.2.2.2.length c6) := ka_42.cell 6
      have ga42_7 : w42.cell? ⟨w.heap.size, 7, none⟩ = some (.int .i64 x.2.2.1.1) := ka_42.cell 7
      have ga42_8 : w42.cell? ⟨w.heap.size, 8, none⟩ = some (.int .i64 x.2.2.1.2.1) := ka_42.cell 8
      have ga42_9 : w42.cell? ⟨w.heap.size, 9, none⟩ = some (.int .i64 x.2.2.1.2.2.1) := ka_42.cell 9
      have ga42_10 : w42.cell? ⟨w.heap.size, 10, none⟩ = some (.slice A10 x.2.2.1.2.2.2.length c10) := ka_42.cell 10
      have ga42_11 : w42.cell? ⟨w.heap.size, 11, none⟩ = some (.slice A11 x.2.2.2.1.length c11) := ka_42.cell 11
      have ga42_12 : w42.cell? ⟨w.heap.size, 12, none⟩ = some (.slice A12 x.2.2.2.2.length c12) := ka_42.cell 12
      cases p2 : belowS x.2.2.1.2.2.2 x.1.2.1.length
      · have HM : Hid (cacheOk x = false) := by unfold Hid; rw [HN.out, p2]; simp
        go_wp2_with fail
        go_ret
        exact bool_end HM uu42
      have HM : Hid (cacheOk x = belowS x.2.2.2.1 x.1.2.1.length) := by unfold Hid; rw [HN.out, p1, p2]; simp
      go_wp2_with fail
      refine (c_l18Below _ _ _ _ _ (b11.up good_Seat uu42)).mono ?_
      rintro e w43 ⟨rfl, u43⟩
      have uu43 := uu42.trans u43
      have ka_43 := ka_42.up u43
      have za_43 := ka_43.lt
      clear ga42_0 ga42_1 ga42_2 ga42_3 ga42_4 ga42_5 ga42_6 ga42_7 ga42_8 ga42_9 ga42_10 ga42_11 ga42_12
      go_wp2_with fail
      go_ret
      exact bool_end HM uu43

end Go.Proofs.YtpjcgglhlmifdaaGreatDoor

namespace Go.Proofs.YtpjcgglhlmifdaaGreatDoor
open Go.RowKit
set_option linter.unusedVariables false

def journalOk (j : TJournal) : Bool := diskOk j.1 && (j.1.1 == 128) && inB j.2.1 1 2000000000 && inB j.2.2.1 1 2000000000 && inB j.2.2.2.1 (j.2.2.1 - 1) 2000000000 && inB j.2.2.2.2 0 j.1.2.1.length

set_option maxRecDepth 100000 in
set_option maxHeartbeats 4000000 in
theorem c_implJournalOk (v : Value) (x : TJournal) (w : World) (h : AV shJournal w v x) : Calls Tryz.prog 120 #[v] w (BoolP (journalOk x) w) := by
  obtain ⟨cs, rfl, h⟩ := h
  obtain ⟨⟨x0, x1, x2⟩, x3, x4, x5, x6⟩ := x
  have ho := openJournal h
  dsimp only at ho
  obtain ⟨A1, c1, A2, c2, rfl, b0, b1, b2, b3, b4, b5, b6⟩ := ho
  obtain ⟨b4l, b4h⟩ := b4
  have hl1 := b1.len_le
  have u0 : Up w (w.alloc (.cells #[.int .i64 x0, .slice A1 x1.length c1, .slice A2 x2.length c2, .int .i64 x3, .int .i64 x4, .int .i64 x5, .int .i64 x6] 77)) := (Up.refl _).alloc _
  have k0 : Bk (w.alloc (.cells #[.int .i64 x0, .slice A1 x1.length c1, .slice A2 x2.length c2, .int .i64 x3, .int .i64 x4, .int .i64 x5, .int .i64 x6] 77)) w.heap.size 77 #[.int .i64 x0, .slice A1 x1.length c1, .slice A2 x2.length c2, .int .i64 x3, .int .i64 x4, .int .i64 x5, .int .i64 x6] := Bk.new _ _ _
  have g0 : ∀ t : UpT (w.alloc (.cells #[.int .i64 x0, .slice A1 x1.length c1, .slice A2 x2.length c2, .int .i64 x3, .int .i64 x4, .int .i64 x5, .int .i64 x6] 77)), t.val.cell? ⟨w.heap.size, 0, none⟩ = some (.int .i64 x0) := fun t => (k0.up t.up).cell 0
  have g1 : ∀ t : UpT (w.alloc (.cells #[.int .i64 x0, .slice A1 x1.length c1, .slice A2 x2.length c2, .int .i64 x3, .int .i64 x4, .int .i64 x5, .int .i64 x6] 77)), t.val.cell? ⟨w.heap.size, 1, none⟩ = some (.slice A1 x1.length c1) := fun t => (k0.up t.up).cell 1
  have g2 : ∀ t : UpT (w.alloc (.cells #[.int .i64 x0, .slice A1 x1.length c1, .slice A2 x2.length c2, .int .i64 x3, .int .i64 x4, .int .i64 x5, .int .i64 x6] 77)), t.val.cell? ⟨w.heap.size, 2, none⟩ = some (.slice A2 x2.length c2) := fun t => (k0.up t.up).cell 2
  have g3 : ∀ t : UpT (w.alloc (.cells #[.int .i64 x0, .slice A1 x1.length c1, .slice A2 x2.length c2, .int .i64 x3, .int .i64 x4, .int .i64 x5, .int .i64 x6] 77)), t.val.cell? ⟨w.heap.size, 3, none⟩ = some (.int .i64 x3) := fun t => (k0.up t.up).cell 3
  have g4 : ∀ t : UpT (w.alloc (.cells #[.int .i64 x0, .slice A1 x1.length c1, .slice A2 x2.length c2, .int .i64 x3, .int .i64 x4, .int .i64 x5, .int .i64 x6] 77)), t.val.cell? ⟨w.heap.size, 4, none⟩ = some (.int .i64 x4) := fun t => (k0.up t.up).cell 4
  have g5 : ∀ t : UpT (w.alloc (.cells #[.int .i64 x0, .slice A1 x1.length c1, .slice A2 x2.length c2, .int .i64 x3, .int .i64 x4, .int .i64 x5, .int .i64 x6] 77)), t.val.cell? ⟨w.heap.size, 5, none⟩ = some (.int .i64 x5) := fun t => (k0.up t.up).cell 5
  have g6 : ∀ t : UpT (w.alloc (.cells #[.int .i64 x0, .slice A1 x1.length c1, .slice A2 x2.length c2, .int .i64 x3, .int .i64 x4, .int .i64 x5, .int .i64 x6] 77)), t.val.cell? ⟨w.heap.size, 6, none⟩ = some (.int .i64 x6) := fun t => (k0.up t.up).cell 6
  cases q0 : diskOk (x0, x1, x2)
  · have HD : Hid (journalOk ((x0, x1, x2), x3, x4, x5, x6) = false) := by unfold Hid journalOk; dsimp only; rw [q0]; simp
    go_enter Tryz.func120, Tryz.ntmps120
    go_wp2_with fail
    refine wp_region_up (by kernel_rfl) (by kernel_rfl) ?_
    repeat (go_big_quiet_step ((first | (go_at_call 164; exact up_bool (c_implDiskOk _ (x0, x1, x2) _ ⟨_, rfl, mkDisk (x := (x0, x1, x2)) b0 (b1.up good_S (u0.trans (UpT.up _))) (b2.up good_Put (u0.trans (UpT.up _)))⟩) q0 (UpT.up _)) | (fail) | (go_at_call 174; exact up_same (c_countS _ _ _ _ hl1) (UpT.up _)))))
    refine wpQuiet_nil ?_
    rintro _ ⟨⟨w1, u1⟩, rfl⟩
    go_wp2_with fail
    go_ret
    exact bool_end HD (u0.trans u1)
  cases q1 : (x0 == 128)
  · have HD : Hid (journalOk ((x0, x1, x2), x3, x4, x5, x6) = false) := by unfold Hid journalOk; dsimp only; rw [q1]; simp
    go_enter Tryz.func120, Tryz.ntmps120
    go_wp2_with fail
    refine wp_region_up (by kernel_rfl) (by kernel_rfl) ?_
    repeat (go_big_quiet_step ((first | (go_at_call 164; exact up_bool (c_implDiskOk _ (x0, x1, x2) _ ⟨_, rfl, mkDisk (x := (x0, x1, x2)) b0 (b1.up good_S (u0.trans (UpT.up _))) (b2.up good_Put (u0.trans (UpT.up _)))⟩) q0 (UpT.up _)) | (fail) | (go_at_call 174; exact up_same (c_countS _ _ _ _ hl1) (UpT.up _)))))
    refine wpQuiet_nil ?_
    rintro _ ⟨⟨w1, u1⟩, rfl⟩
    go_wp2_with fail
    go_ret
    exact bool_end HD (u0.trans u1)
  cases q2 : inB x3 1 2000000000
  · have HD : Hid (journalOk ((x0, x1, x2), x3, x4, x5, x6) = false) := by unfold Hid journalOk; dsimp only; rw [q2]; simp
    go_enter Tryz.func120, Tryz.ntmps120
    go_wp2_with fail
    refine wp_region_up (by kernel_rfl) (by kernel_rfl) ?_
    repeat (go_big_quiet_step ((first | (go_at_call 164; exact up_bool (c_implDiskOk _ (x0, x1, x2) _ ⟨_, rfl, mkDisk (x := (x0, x1, x2)) b0 (b1.up good_S (u0.trans (UpT.up _))) (b2.up good_Put (u0.trans (UpT.up _)))⟩) q0 (UpT.up _)) | (go_at_call 89; exact up_bools (within_any _ _ _ _) q2 (UpT.up _)) | (go_at_call 174; exact up_same (c_countS _ _ _ _ hl1) (UpT.up _)))))
    refine wpQuiet_nil ?_
    rintro _ ⟨⟨w1, u1⟩, rfl⟩
    go_wp2_with fail
    go_ret
    exact bool_end HD (u0.trans u1)
  cases q3 : inB x4 1 2000000000
  · have HD : Hid (journalOk ((x0, x1, x2), x3, x4, x5, x6) = false) := by unfold Hid journalOk; dsimp only; rw [q3]; simp
    go_enter Tryz.func120, Tryz.ntmps120
    go_wp2_with fail
    refine wp_region_up (by kernel_rfl) (by kernel_rfl) ?_
    repeat (go_big_quiet_step ((first | (go_at_call 164; exact up_bool (c_implDiskOk _ (x0, x1, x2) _ ⟨_, rfl, mkDisk (x := (x0, x1, x2)) b0 (b1.up good_S (u0.trans (UpT.up _))) (b2.up good_Put (u0.trans (UpT.up _)))⟩) q0 (UpT.up _)) | (go_at_call 89; exact up_bools (within_any _ _ _ _) q2 (UpT.up _)) | (go_at_call 89; exact up_bools (within_any _ _ _ _) q3 (UpT.up _)) | (go_at_call 174; exact up_same (c_countS _ _ _ _ hl1) (UpT.up _)))))
    refine wpQuiet_nil ?_
    rintro _ ⟨⟨w1, u1⟩, rfl⟩
    go_wp2_with fail
    go_ret
    exact bool_end HD (u0.trans u1)
  obtain ⟨b4a, b4b⟩ := inB_t.1 q3
  cases q4 : inB x5 (x4 - 1) 2000000000
  · have HD : Hid (journalOk ((x0, x1, x2), x3, x4, x5, x6) = false) := by unfold Hid journalOk; dsimp only; rw [q4]; simp
    go_enter Tryz.func120, Tryz.ntmps120
    go_wp2_with fail
    refine wp_region_up (by kernel_rfl) (by kernel_rfl) ?_
    repeat (go_big_quiet_step ((first | (go_at_call 164; exact up_bool (c_implDiskOk _ (x0, x1, x2) _ ⟨_, rfl, mkDisk (x := (x0, x1, x2)) b0 (b1.up good_S (u0.trans (UpT.up _))) (b2.up good_Put (u0.trans (UpT.up _)))⟩) q0 (UpT.up _)) | (go_at_call 89; exact up_bools (within_any _ _ _ _) q2 (UpT.up _)) | (go_at_call 89; exact up_bools (within_any _ _ _ _) q3 (UpT.up _)) | (go_at_call 89; exact up_bools (within_any _ _ _ _) q4 (UpT.up _)) | (go_at_call 174; exact up_same (c_countS _ _ _ _ hl1) (UpT.up _)))))
    refine wpQuiet_nil ?_
    rintro _ ⟨⟨w1, u1⟩, rfl⟩
    go_wp2_with fail
    go_ret
    exact bool_end HD (u0.trans u1)
  cases q5 : inB x6 0 x1.length
  · have HD : Hid (journalOk ((x0, x1, x2), x3, x4, x5, x6) = false) := by unfold Hid journalOk; dsimp only; rw [q5]; simp
    go_enter Tryz.func120, Tryz.ntmps120
    go_wp2_with fail
    refine wp_region_up (by kernel_rfl) (by kernel_rfl) ?_
    repeat (go_big_quiet_step ((first | (go_at_call 164; exact up_bool (c_implDiskOk _ (x0, x1, x2) _ ⟨_, rfl, mkDisk (x := (x0, x1, x2)) b0 (b1.up good_S (u0.trans (UpT.up _))) (b2.up good_Put (u0.trans (UpT.up _)))⟩) q0 (UpT.up _)) | (go_at_call 89; exact up_bools (within_any _ _ _ _) q2 (UpT.up _)) | (go_at_call 89; exact up_bools (within_any _ _ _ _) q3 (UpT.up _)) | (go_at_call 89; exact up_bools (within_any _ _ _ _) q4 (UpT.up _)) | (go_at_call 89; exact up_bools (within_any _ _ _ _) q5 (UpT.up _)) | (go_at_call 174; exact up_same (c_countS _ _ _ _ hl1) (UpT.up _)))))
    refine wpQuiet_nil ?_
    rintro _ ⟨⟨w1, u1⟩, rfl⟩
    go_wp2_with fail
    go_ret
    exact bool_end HD (u0.trans u1)
  have HD : Hid (journalOk ((x0, x1, x2), x3, x4, x5, x6) = true) := by unfold Hid journalOk; dsimp only; rw [q0, q1, q2, q3, q4, q5]; rfl
  go_enter Tryz.func120, Tryz.ntmps120
  go_wp2_with fail
  refine wp_region_up (by kernel_rfl) (by kernel_rfl) ?_
  repeat (go_big_quiet_step ((first | (go_at_call 164; exact up_bool (c_implDiskOk _ (x0, x1, x2) _ ⟨_, rfl, mkDisk (x := (x0, x1, x2)) b0 (b1.up good_S (u0.trans (UpT.up _))) (b2.up good_Put (u0.trans (UpT.up _)))⟩) q0 (UpT.up _)) | (go_at_call 89; exact up_bools (within_any _ _ _ _) q2 (UpT.up _)) | (go_at_call 89; exact up_bools (within_any _ _ _ _) q3 (UpT.up _)) | (go_at_call 89; exact up_bools (within_any _ _ _ _) q4 (UpT.up _)) | (go_at_call 89; exact up_bools (within_any _ _ _ _) q5 (UpT.up _)) | (go_at_call 174; exact up_same (c_countS _ _ _ _ hl1) (UpT.up _)))))
  refine wpQuiet_nil ?_
  rintro _ ⟨⟨w1, u1⟩, rfl⟩
  go_wp2_with fail
  go_ret
  exact bool_end HD (u0.trans u1)

set_option maxRecDepth 100000 in
set_option maxHeartbeats 4000000 in
theorem c_specJournalOk (v : Value) (x : TJournal) (w : World) (h : AV shJournal w v x) : Calls Tryz.prog 114 #[v] w (BoolP (journalOk x) w) := by
  obtain ⟨cs, rfl, h⟩ := h
  obtain ⟨⟨x0, x1, x2⟩, x3, x4, x5, x6⟩ := x
  have ho := openJournal h
  dsimp only at ho
  obtain ⟨A1, c1, A2, c2, rfl, b0, b1, b2, b3, b4, b5, b6⟩ := ho
  obtain ⟨b4l, b4h⟩ := b4
  have hl1 := b1.len_le
  have u0 : Up w (w.alloc (.cells #[.int .i64 x0, .slice A1 x1.length c1, .slice A2 x2.length c2, .int .i64 x3, .int .i64 x4, .int .i64 x5, .int .i64 x6] 77)) := (Up.refl _).alloc _
  have k0 : Bk (w.alloc (.cells #[.int .i64 x0, .slice A1 x1.length c1, .slice A2 x2.length c2, .int .i64 x3, .int .i64 x4, .int .i64 x5, .int .i64 x6] 77)) w.heap.size 77 #[.int .i64 x0, .slice A1 x1.length c1, .slice A2 x2.length c2, .int .i64 x3, .int .i64 x4, .int .i64 x5, .int .i64 x6] := Bk.new _ _ _
  cases q0 : diskOk (x0, x1, x2)
  · have HD : Hid (journalOk ((x0, x1, x2), x3, x4, x5, x6) = false) := by unfold Hid journalOk; dsimp only; rw [q0]; simp
    go_enter Tryz.func114, Tryz.ntmps114
    go_wp2_with (first | (go_at_call 156; refine (c_specDiskOk _ (x0, x1, x2) _ ⟨_, rfl, mkDisk (x := (x0, x1, x2)) b0 (b1.up good_S u0) (b2.up good_Put u0)⟩).mono ?_; rintro e w1 ⟨rfl, u1⟩; have k1 := k0.up u1; have uu1 := u0.trans u1; have g0 : w1.cell? ⟨w.heap.size, 0, none⟩ = some (.int .i64 x0) := k1.cell 0; have g1 : w1.cell? ⟨w.heap.size, 1, none⟩ = some (.slice A1 x1.length c1) := k1.cell 1; have g2 : w1.cell? ⟨w.heap.size, 2, none⟩ = some (.slice A2 x2.length c2) := k1.cell 2; have g3 : w1.cell? ⟨w.heap.size, 3, none⟩ = some (.int .i64 x3) := k1.cell 3; have g4 : w1.cell? ⟨w.heap.size, 4, none⟩ = some (.int .i64 x4) := k1.cell 4; have g5 : w1.cell? ⟨w.heap.size, 5, none⟩ = some (.int .i64 x5) := k1.cell 5; have g6 : w1.cell? ⟨w.heap.size, 6, none⟩ = some (.int .i64 x6) := k1.cell 6) | (go_at_call 88; refine (in_any _ _ _ _).mono ?_; rintro e w' ⟨rfl, rfl⟩))
    go_ret
    exact bool_end HD uu1
  cases q1 : (x0 == 128)
  · have HD : Hid (journalOk ((x0, x1, x2), x3, x4, x5, x6) = false) := by unfold Hid journalOk; dsimp only; rw [q1]; simp
    go_enter Tryz.func114, Tryz.ntmps114
    go_wp2_with (first | (go_at_call 156; refine (c_specDiskOk _ (x0, x1, x2) _ ⟨_, rfl, mkDisk (x := (x0, x1, x2)) b0 (b1.up good_S u0) (b2.up good_Put u0)⟩).mono ?_; rintro e w1 ⟨rfl, u1⟩; have k1 := k0.up u1; have uu1 := u0.trans u1; have g0 : w1.cell? ⟨w.heap.size, 0, none⟩ = some (.int .i64 x0) := k1.cell 0; have g1 : w1.cell? ⟨w.heap.size, 1, none⟩ = some (.slice A1 x1.length c1) := k1.cell 1; have g2 : w1.cell? ⟨w.heap.size, 2, none⟩ = some (.slice A2 x2.length c2) := k1.cell 2; have g3 : w1.cell? ⟨w.heap.size, 3, none⟩ = some (.int .i64 x3) := k1.cell 3; have g4 : w1.cell? ⟨w.heap.size, 4, none⟩ = some (.int .i64 x4) := k1.cell 4; have g5 : w1.cell? ⟨w.heap.size, 5, none⟩ = some (.int .i64 x5) := k1.cell 5; have g6 : w1.cell? ⟨w.heap.size, 6, none⟩ = some (.int .i64 x6) := k1.cell 6) | (go_at_call 88; refine (in_any _ _ _ _).mono ?_; rintro e w' ⟨rfl, rfl⟩))
    go_ret
    exact bool_end HD uu1
  cases q2 : inB x3 1 2000000000
  · have HD : Hid (journalOk ((x0, x1, x2), x3, x4, x5, x6) = false) := by unfold Hid journalOk; dsimp only; rw [q2]; simp
    go_enter Tryz.func114, Tryz.ntmps114
    go_wp2_with (first | (go_at_call 156; refine (c_specDiskOk _ (x0, x1, x2) _ ⟨_, rfl, mkDisk (x := (x0, x1, x2)) b0 (b1.up good_S u0) (b2.up good_Put u0)⟩).mono ?_; rintro e w1 ⟨rfl, u1⟩; have k1 := k0.up u1; have uu1 := u0.trans u1; have g0 : w1.cell? ⟨w.heap.size, 0, none⟩ = some (.int .i64 x0) := k1.cell 0; have g1 : w1.cell? ⟨w.heap.size, 1, none⟩ = some (.slice A1 x1.length c1) := k1.cell 1; have g2 : w1.cell? ⟨w.heap.size, 2, none⟩ = some (.slice A2 x2.length c2) := k1.cell 2; have g3 : w1.cell? ⟨w.heap.size, 3, none⟩ = some (.int .i64 x3) := k1.cell 3; have g4 : w1.cell? ⟨w.heap.size, 4, none⟩ = some (.int .i64 x4) := k1.cell 4; have g5 : w1.cell? ⟨w.heap.size, 5, none⟩ = some (.int .i64 x5) := k1.cell 5; have g6 : w1.cell? ⟨w.heap.size, 6, none⟩ = some (.int .i64 x6) := k1.cell 6) | (go_at_call 88; refine (in_any _ _ _ _).mono ?_; rintro e w' ⟨rfl, rfl⟩))
    go_ret
    exact bool_end HD uu1
  cases q3 : inB x4 1 2000000000
  · have HD : Hid (journalOk ((x0, x1, x2), x3, x4, x5, x6) = false) := by unfold Hid journalOk; dsimp only; rw [q3]; simp
    go_enter Tryz.func114, Tryz.ntmps114
    go_wp2_with (first | (go_at_call 156; refine (c_specDiskOk _ (x0, x1, x2) _ ⟨_, rfl, mkDisk (x := (x0, x1, x2)) b0 (b1.up good_S u0) (b2.up good_Put u0)⟩).mono ?_; rintro e w1 ⟨rfl, u1⟩; have k1 := k0.up u1; have uu1 := u0.trans u1; have g0 : w1.cell? ⟨w.heap.size, 0, none⟩ = some (.int .i64 x0) := k1.cell 0; have g1 : w1.cell? ⟨w.heap.size, 1, none⟩ = some (.slice A1 x1.length c1) := k1.cell 1; have g2 : w1.cell? ⟨w.heap.size, 2, none⟩ = some (.slice A2 x2.length c2) := k1.cell 2; have g3 : w1.cell? ⟨w.heap.size, 3, none⟩ = some (.int .i64 x3) := k1.cell 3; have g4 : w1.cell? ⟨w.heap.size, 4, none⟩ = some (.int .i64 x4) := k1.cell 4; have g5 : w1.cell? ⟨w.heap.size, 5, none⟩ = some (.int .i64 x5) := k1.cell 5; have g6 : w1.cell? ⟨w.heap.size, 6, none⟩ = some (.int .i64 x6) := k1.cell 6) | (go_at_call 88; refine (in_any _ _ _ _).mono ?_; rintro e w' ⟨rfl, rfl⟩))
    go_ret
    exact bool_end HD uu1
  obtain ⟨b4a, b4b⟩ := inB_t.1 q3
  cases q4 : inB x5 (x4 - 1) 2000000000
  · have HD : Hid (journalOk ((x0, x1, x2), x3, x4, x5, x6) = false) := by unfold Hid journalOk; dsimp only; rw [q4]; simp
    go_enter Tryz.func114, Tryz.ntmps114
    go_wp2_with (first | (go_at_call 156; refine (c_specDiskOk _ (x0, x1, x2) _ ⟨_, rfl, mkDisk (x := (x0, x1, x2)) b0 (b1.up good_S u0) (b2.up good_Put u0)⟩).mono ?_; rintro e w1 ⟨rfl, u1⟩; have k1 := k0.up u1; have uu1 := u0.trans u1; have g0 : w1.cell? ⟨w.heap.size, 0, none⟩ = some (.int .i64 x0) := k1.cell 0; have g1 : w1.cell? ⟨w.heap.size, 1, none⟩ = some (.slice A1 x1.length c1) := k1.cell 1; have g2 : w1.cell? ⟨w.heap.size, 2, none⟩ = some (.slice A2 x2.length c2) := k1.cell 2; have g3 : w1.cell? ⟨w.heap.size, 3, none⟩ = some (.int .i64 x3) := k1.cell 3; have g4 : w1.cell? ⟨w.heap.size, 4, none⟩ = some (.int .i64 x4) := k1.cell 4; have g5 : w1.cell? ⟨w.heap.size, 5, none⟩ = some (.int .i64 x5) := k1.cell 5; have g6 : w1.cell? ⟨w.heap.size, 6, none⟩ = some (.int .i64 x6) := k1.cell 6) | (go_at_call 88; refine (in_any _ _ _ _).mono ?_; rintro e w' ⟨rfl, rfl⟩))
    go_ret
    exact bool_end HD uu1
  cases q5 : inB x6 0 x1.length
  · have HD : Hid (journalOk ((x0, x1, x2), x3, x4, x5, x6) = false) := by unfold Hid journalOk; dsimp only; rw [q5]; simp
    go_enter Tryz.func114, Tryz.ntmps114
    go_wp2_with (first | (go_at_call 156; refine (c_specDiskOk _ (x0, x1, x2) _ ⟨_, rfl, mkDisk (x := (x0, x1, x2)) b0 (b1.up good_S u0) (b2.up good_Put u0)⟩).mono ?_; rintro e w1 ⟨rfl, u1⟩; have k1 := k0.up u1; have uu1 := u0.trans u1; have g0 : w1.cell? ⟨w.heap.size, 0, none⟩ = some (.int .i64 x0) := k1.cell 0; have g1 : w1.cell? ⟨w.heap.size, 1, none⟩ = some (.slice A1 x1.length c1) := k1.cell 1; have g2 : w1.cell? ⟨w.heap.size, 2, none⟩ = some (.slice A2 x2.length c2) := k1.cell 2; have g3 : w1.cell? ⟨w.heap.size, 3, none⟩ = some (.int .i64 x3) := k1.cell 3; have g4 : w1.cell? ⟨w.heap.size, 4, none⟩ = some (.int .i64 x4) := k1.cell 4; have g5 : w1.cell? ⟨w.heap.size, 5, none⟩ = some (.int .i64 x5) := k1.cell 5; have g6 : w1.cell? ⟨w.heap.size, 6, none⟩ = some (.int .i64 x6) := k1.cell 6) | (go_at_call 88; refine (in_any _ _ _ _).mono ?_; rintro e w' ⟨rfl, rfl⟩))
    go_ret
    exact bool_end HD uu1
  have HD : Hid (journalOk ((x0, x1, x2), x3, x4, x5, x6) = true) := by unfold Hid journalOk; dsimp only; rw [q0, q1, q2, q3, q4, q5]; rfl
  go_enter Tryz.func114, Tryz.ntmps114
  go_wp2_with (first | (go_at_call 156; refine (c_specDiskOk _ (x0, x1, x2) _ ⟨_, rfl, mkDisk (x := (x0, x1, x2)) b0 (b1.up good_S u0) (b2.up good_Put u0)⟩).mono ?_; rintro e w1 ⟨rfl, u1⟩; have k1 := k0.up u1; have uu1 := u0.trans u1; have g0 : w1.cell? ⟨w.heap.size, 0, none⟩ = some (.int .i64 x0) := k1.cell 0; have g1 : w1.cell? ⟨w.heap.size, 1, none⟩ = some (.slice A1 x1.length c1) := k1.cell 1; have g2 : w1.cell? ⟨w.heap.size, 2, none⟩ = some (.slice A2 x2.length c2) := k1.cell 2; have g3 : w1.cell? ⟨w.heap.size, 3, none⟩ = some (.int .i64 x3) := k1.cell 3; have g4 : w1.cell? ⟨w.heap.size, 4, none⟩ = some (.int .i64 x4) := k1.cell 4; have g5 : w1.cell? ⟨w.heap.size, 5, none⟩ = some (.int .i64 x5) := k1.cell 5; have g6 : w1.cell? ⟨w.heap.size, 6, none⟩ = some (.int .i64 x6) := k1.cell 6) | (go_at_call 88; refine (in_any _ _ _ _).mono ?_; rintro e w' ⟨rfl, rfl⟩))
  go_ret
  exact bool_end HD uu1

end Go.Proofs.YtpjcgglhlmifdaaGreatDoor
