/-
  copyDisk and l17Own: a disk in new memory.
  DiskOk: the program's and the reference's compute one function of a disk.
  The flush of a disk: each write put into its sector.
  Small contracts about a disk: l17Has; results that are zero.
  Stamped: the program's and the reference's compute one function; the law returns true.
  A set of numbers as a map[int64]bool that the call has made. No program is named here.
  Whole rows loaded out of, and stored into, known blocks: the world behind a store is a variable.
-/
import Derived.Test.YtpjcgglhlmifdaaGreatDoorM3G
import Derived.Test.YtpjcgglhlmifdaaGreatDoorM3J
import Derived.Deep.RegionHeld3
import Derived.Test.YtpjcgglhlmifdaaGreatDoorM3E
import Derived.Test.YtpjcgglhlmifdaaGreatDoorM3Le
import Derived.Shelf.Abstract
import Derived.Test.YtpjcgglhlmifdaaGreatDoorM3A
import Derived.Test.YtpjcgglhlmifdaaGreatDoorM3M
import Derived.Maps.Own
import Derived.Maps.OwnSet
import Derived.Deep.MidRow
namespace Go.Proofs.YtpjcgglhlmifdaaGreatDoor
open Go.RowKit
set_option linter.unusedVariables false
set_option linter.unusedSimpArgs false

end Go.Proofs.YtpjcgglhlmifdaaGreatDoor

namespace Go.Proofs.YtpjcgglhlmifdaaGreatDoor
open Go.RowKit
set_option linter.unusedVariables false

def badSec (wide : Int) (s : ByteArray) : Bool := (s.size : Int) != wide
def badPut (n wide : Int) (p : TPut) : Bool := !inB p.1 0 (n - 1) || (p.2.size : Int) != wide
def diskOk (d : TDisk) : Bool := inB d.1 1 2000 && inB d.2.1.length 1 400 && !decide ((400 : Int) < d.2.2.length) && !d.2.1.any (badSec d.1) && !d.2.2.any (badPut d.2.1.length d.1)

theorem app_two (a b : Value) : #[a] ++ #[b] = #[a, b] := by simp
theorem bool_end {b c : Bool} {w w' : World} (h : Hid (b = c)) (u : Up w w') : BoolP b w (.returned (.bool c)) w' := ⟨by rw [h.out], u⟩
theorem c_countS (xs : List ByteArray) (A : Option Addr) (c : Nat) (w : World) (h : xs.length ≤ 9223372036854775807) : Calls Tryz.prog 174 #[.slice A xs.length c] w fun e w' => e = .returned (.int .i64 xs.length) ∧ w = w' := by
  go_enter Tryz.func174, Tryz.ntmps174
  go_wp2
  go_ret
  exact ⟨rfl, rfl⟩

set_option maxHeartbeats 1000000 in
theorem c_has (v : Value) (x : TDisk) (n : Int) (w : World) (h : AV shDisk w v x) : Calls Tryz.prog 168 #[v, .int .i64 n] w (BoolP (inB n 0 (x.2.1.length - 1)) w) := by
  obtain ⟨cs, rfl, h⟩ := h
  obtain ⟨x0, x1, x2⟩ := x
  have ho := openDisk h
  dsimp only at ho
  obtain ⟨A1, c1, A2, c2, rfl, b0, b1, b2⟩ := ho
  have hl := b1.len_le
  go_enter Tryz.func168, Tryz.ntmps168
  go_wp2_with fail
  refine (c_countS _ _ _ _ hl).mono ?_
  rintro e w1 ⟨rfl, rfl⟩
  go_wp2_with fail
  refine (within_any _ _ _ _).mono ?_
  rintro e w1 ⟨rfl, rfl⟩
  go_wp2_with fail
  go_ret
  exact ⟨rfl, (Up.refl _).alloc _⟩

theorem c_DiskOk1 (B : Nat) (wide : Int) (s : ByteArray) (w : World) (hs : s.size ≤ 9223372036854775807) (hc : w.cell? ⟨B, 0, none⟩ = some (.int .i64 wide)) :
    Calls Tryz.prog 202 #[.string s, .pointer (some ⟨B, 0, none⟩)] w (BoolP (badSec wide s) w) := by
  go_enter Tryz.func202, Tryz.ntmps202
  go_wp2
  go_ret
  exact ⟨rfl, Up.refl _⟩

set_option maxHeartbeats 1000000 in
theorem c_DiskOk2 (B : Nat) (v : Value) (p : TPut) (d : TDisk) (cs : List Value) (t : TypeId) (w : World) (h : AV shPut w v p) (hB : Bk w B t cs.toArray) (hd : AV shDisk w (.agg cs.toArray) d) :
    Calls Tryz.prog 204 #[v, .pointer (some ⟨B, 0, none⟩)] w (BoolP (badPut d.2.1.length d.1 p) w) := by
  obtain ⟨ps, rfl, h⟩ := h
  obtain ⟨p0, p1⟩ := p
  have ho := openPut h
  dsimp only at ho
  obtain ⟨rfl, b0, b1⟩ := ho
  have hd' := hd
  obtain ⟨ds, hds, hd⟩ := hd
  injection hds with hds
  obtain rfl : cs = ds := congrArg Array.toList hds
  obtain ⟨x0, x1, x2⟩ := d
  have hdo := openDisk hd
  dsimp only at hdo
  obtain ⟨A1, c1, A2, c2, rfl, d0, d1, d2⟩ := hdo
  have g0 : w.cell? ⟨B, 0, none⟩ = some (.int .i64 x0) := hB.cell 0
  have g1 : w.cell? ⟨B, 1, none⟩ = some (.slice A1 x1.length c1) := hB.cell 1
  have g2 : w.cell? ⟨B, 2, none⟩ = some (.slice A2 x2.length c2) := hB.cell 2
  have hlt := hB.lt
  unfold maxLen at b1
  have u0 : Up w (w.alloc (.cells #[.int .i64 p0, .string p1] 252)) := (Up.refl _).alloc _
  go_enter Tryz.func204, Tryz.ntmps204
  go_wp2_with fail
  refine (c_has _ (x0, x1, x2) _ _ (hd'.up good_Disk u0)).mono ?_
  rintro e w1 ⟨rfl, u1⟩
  dsimp only
  have k0 : w1.cell? ⟨B, 0, none⟩ = some (.int .i64 x0) := ((hB.up u0).up u1).cell 0
  have kp : w1.cell? ⟨w.heap.size, 1, none⟩ = some (.string p1) := ((Bk.new w 252 #[.int .i64 p0, .string p1]).up u1).cell 1
  cases hq : inB p0 0 (x1.length - 1)
  · have HB : Hid (badPut x1.length x0 (p0, p1) = true) := by unfold Hid badPut; simp [hq]
    clear hq
    go_wp2_with fail
    go_ret
    exact bool_end HB (u0.trans u1)
  · have HB : Hid (badPut x1.length x0 (p0, p1) = ((p1.size : Int) != x0)) := by unfold Hid badPut; simp [hq]
    clear hq
    go_wp2_with fail
    go_ret
    exact bool_end HB (u0.trans u1)


set_option maxRecDepth 100000 in
theorem eg_DiskOk1 : ∀ args w, (callFunc 202 args).run Tryz.prog w = .ok (.enter 202 args) w := enters_of Tryz.func202 (by kernel_rfl) rfl
set_option maxRecDepth 100000 in
theorem eg_DiskOk2 : ∀ args w, (callFunc 204 args).run Tryz.prog w = .ok (.enter 204 args) w := enters_of Tryz.func204 (by kernel_rfl) rfl

set_option maxRecDepth 100000 in
set_option maxHeartbeats 2000000 in
theorem c_implDiskOk (v : Value) (x : TDisk) (w : World) (h : AV shDisk w v x) : Calls Tryz.prog 164 #[v] w (BoolP (diskOk x) w) := by
  have hv := h
  obtain ⟨cs, rfl, h⟩ := h
  obtain ⟨x0, x1, x2⟩ := x
  have ho := openDisk h
  dsimp only at ho
  obtain ⟨A1, c1, A2, c2, rfl, b0, b1, b2⟩ := ho
  have hl1 := b1.len_le
  have hl2 := b2.len_le
  have u0 : Up w (w.alloc (.cells #[.int .i64 x0, .slice A1 x1.length c1, .slice A2 x2.length c2] 70)) := (Up.refl _).alloc _
  have k0 : Bk (w.alloc (.cells #[.int .i64 x0, .slice A1 x1.length c1, .slice A2 x2.length c2] 70)) w.heap.size 70 #[.int .i64 x0, .slice A1 x1.length c1, .slice A2 x2.length c2] := Bk.new _ _ _
  cases h1 : inB x0 1 2000
  · have HD : Hid (diskOk (x0, x1, x2) = false) := by unfold Hid diskOk; simp [h1]
    go_enter Tryz.func164, Tryz.ntmps164
    go_wp2_with (first | (go_at_call 89; refine (within_any _ _ _ _).mono ?_; rintro e w' ⟨rfl, rfl⟩) | (go_at_call 174; refine (c_countS _ _ _ _ hl1).mono ?_; rintro e w' ⟨rfl, rfl⟩))
    go_ret
    exact bool_end HD u0
  cases h2 : inB x1.length 1 400
  · have HD : Hid (diskOk (x0, x1, x2) = false) := by unfold Hid diskOk; simp [h2]
    go_enter Tryz.func164, Tryz.ntmps164
    go_wp2_with (first | (go_at_call 89; refine (within_any _ _ _ _).mono ?_; rintro e w' ⟨rfl, rfl⟩) | (go_at_call 174; refine (c_countS _ _ _ _ hl1).mono ?_; rintro e w' ⟨rfl, rfl⟩))
    go_ret
    exact bool_end HD u0
  by_cases h3 : (400 : Int) < x2.length
  · have HD : Hid (diskOk (x0, x1, x2) = false) := by unfold Hid diskOk; simp [h3]
    go_enter Tryz.func164, Tryz.ntmps164
    go_wp2_with (first | (go_at_call 89; refine (within_any _ _ _ _).mono ?_; rintro e w' ⟨rfl, rfl⟩) | (go_at_call 174; refine (c_countS _ _ _ _ hl1).mono ?_; rintro e w' ⟨rfl, rfl⟩))
    go_ret
    exact bool_end HD u0
  have HD : Hid (diskOk (x0, x1, x2) = (!x1.any (badSec x0) && !x2.any (badPut x1.length x0))) := by unfold Hid diskOk; simp [h1, h2, h3]
  have h3' : decide ((400 : Int) < x2.length) = false := by simpa using h3
  go_enter Tryz.func164, Tryz.ntmps164
  go_wp2_with (first | (go_at_call 89; refine (within_any _ _ _ _).mono ?_; rintro e w' ⟨rfl, rfl⟩) | (go_at_call 174; refine (c_countS _ _ _ _ hl1).mono ?_; rintro e w' ⟨rfl, rfl⟩))
  have hf1 : ∀ (W : World) (s : ByteArray), s ∈ x1 → Up (w.alloc (.cells #[.int .i64 x0, .slice A1 x1.length c1, .slice A2 x2.length c2] 70)) W → Calls Tryz.prog 202 (#[.string s] ++ #[.pointer (some ⟨w.heap.size, 0, none⟩)]) W (BoolP (badSec x0 s) W) := fun W s hs hW => by
    rw [app_two]
    refine c_DiskOk1 _ x0 s W ?_ ((k0.up hW).cell 0)
    obtain ⟨i, hi, rfl⟩ := List.getElem_of_mem hs
    exact ((b1.at_S hi).elim fun g h => h.elim fun off h => h.2.2.2.2)
  refine (c_ContainsFuncString 202 _ eg_DiskOk1 (badSec x0) _ _ x1 _ (b1.up good_S u0) hf1).mono ?_
  rintro e w1 ⟨rfl, u1⟩
  have k1 := k0.up u1
  have uu1 := u0.trans u1
  have g2 : w1.cell? ⟨w.heap.size, 2, none⟩ = some (.slice A2 x2.length c2) := k1.cell 2
  cases h4 : x1.any (badSec x0)
  · go_wp2_with fail
    have hf2 : ∀ (W : World) (v : Value) (p : TPut), p ∈ x2 → Up w1 W → AV shPut W v p → Calls Tryz.prog 204 (#[v] ++ #[.pointer (some ⟨w.heap.size, 0, none⟩)]) W (BoolP (badPut x1.length x0 p) W) := fun W v p hp hW hav => by
      rw [app_two]
      exact c_DiskOk2 _ v p (x0, x1, x2) _ _ W hav (k1.up hW) (hv.up good_Disk (uu1.trans hW))
    refine (c_ContainsFuncPut 204 _ eg_DiskOk2 (badPut x1.length x0) _ _ x2 _ (b2.up good_Put uu1) hf2).mono ?_
    rintro e w2 ⟨rfl, u2⟩
    have HE : Hid (diskOk (x0, x1, x2) = !x2.any (badPut x1.length x0)) := by unfold Hid; rw [HD.out, h4]; simp
    clear h4
    go_wp2_with fail
    go_ret
    exact bool_end HE (uu1.trans u2)
  · have HE : Hid (diskOk (x0, x1, x2) = false) := by unfold Hid; rw [HD.out, h4]; simp
    clear h4
    go_wp2_with fail
    go_ret
    exact bool_end HE uu1

set_option maxRecDepth 100000 in
set_option maxHeartbeats 4000000 in
theorem c_specDiskOk (v : Value) (x : TDisk) (w : World) (h : AV shDisk w v x) : Calls Tryz.prog 156 #[v] w (BoolP (diskOk x) w) := by
  have hv := h
  obtain ⟨cs, rfl, h⟩ := h
  obtain ⟨x0, x1, x2⟩ := x
  have ho := openDisk h
  dsimp only at ho
  obtain ⟨A1, c1, A2, c2, rfl, b0, b1, b2⟩ := ho
  have hl1 := b1.len_le
  have hl2 := b2.len_le
  have u0 : Up w (w.alloc (.cells #[.int .i64 x0, .slice A1 x1.length c1, .slice A2 x2.length c2] 70)) := (Up.refl _).alloc _
  have k0 : Bk (w.alloc (.cells #[.int .i64 x0, .slice A1 x1.length c1, .slice A2 x2.length c2] 70)) w.heap.size 70 #[.int .i64 x0, .slice A1 x1.length c1, .slice A2 x2.length c2] := Bk.new _ _ _
  cases h1 : inB x0 1 2000
  · have HD : Hid (diskOk (x0, x1, x2) = false) := by unfold Hid diskOk; simp [h1]
    go_enter Tryz.func156, Tryz.ntmps156
    go_wp2_with (go_at_call 88; refine (in_any _ _ _ _).mono ?_; rintro e w' ⟨rfl, rfl⟩)
    go_ret
    exact bool_end HD u0
  by_cases h2 : (x1.length : Int) < 1
  · have HD : Hid (diskOk (x0, x1, x2) = false) := by unfold Hid diskOk; simp only [inB_f.2 (show ¬ (1 ≤ (x1.length : Int) ∧ (x1.length : Int) ≤ 400) by omega)]; simp
    go_enter Tryz.func156, Tryz.ntmps156
    go_wp2_with (go_at_call 88; refine (in_any _ _ _ _).mono ?_; rintro e w' ⟨rfl, rfl⟩)
    go_ret
    exact bool_end HD u0
  have h2' : decide ((x1.length : Int) < 1) = false := by simpa using h2
  by_cases h2b : (400 : Int) < x1.length
  · have HD : Hid (diskOk (x0, x1, x2) = false) := by unfold Hid diskOk; simp only [inB_f.2 (show ¬ (1 ≤ (x1.length : Int) ∧ (x1.length : Int) ≤ 400) by omega)]; simp
    go_enter Tryz.func156, Tryz.ntmps156
    go_wp2_with (go_at_call 88; refine (in_any _ _ _ _).mono ?_; rintro e w' ⟨rfl, rfl⟩)
    go_ret
    exact bool_end HD u0
  have h2b' : decide ((400 : Int) < x1.length) = false := by simpa using h2b
  by_cases h3 : (400 : Int) < x2.length
  · have HD : Hid (diskOk (x0, x1, x2) = false) := by unfold Hid diskOk; simp [h3]
    go_enter Tryz.func156, Tryz.ntmps156
    go_wp2_with (go_at_call 88; refine (in_any _ _ _ _).mono ?_; rintro e w' ⟨rfl, rfl⟩)
    go_ret
    exact bool_end HD u0
  have h3' : decide ((400 : Int) < x2.length) = false := by simpa using h3
  have hin : inB x1.length 1 400 = true := inB_t.2 (by omega)
  have HD : Hid (diskOk (x0, x1, x2) = (!x1.any (badSec x0) && !x2.any (badPut x1.length x0))) := by unfold Hid diskOk; simp [h1, hin, h3]
  clear hin
  go_enter Tryz.func156, Tryz.ntmps156
  go_wp2_with (go_at_call 88; refine (in_any _ _ _ _).mono ?_; rintro e w' ⟨rfl, rfl⟩)
  go_loopw [4] (fun i wr => ∃ k : Nat, k ≤ x1.length ∧ i = .int .i64 k ∧ Hid ((x1.take k).any (badSec x0) = false) ∧ Up w wr ∧ Bk wr w.heap.size 70 #[.int .i64 x0, .slice A1 x1.length c1, .slice A2 x2.length c2]) (fun i _ => x1.length - (intOf i).toNat)
  case atStart => exact ⟨0, Nat.zero_le _, rfl, rfl, u0, k0⟩
  case round =>
    obtain ⟨k, hk, rfl, HT, hu, kb⟩ := hrel
    have g0 : wr.cell? ⟨w.heap.size, 0, none⟩ = some (.int .i64 x0) := kb.cell 0
    have g1 : wr.cell? ⟨w.heap.size, 1, none⟩ = some (.slice A1 x1.length c1) := kb.cell 1
    have g2 : wr.cell? ⟨w.heap.size, 2, none⟩ = some (.slice A2 x2.length c2) := kb.cell 2
    by_cases hlt : k < x1.length
    · obtain ⟨g, off, rfl, _, _, hc, hb⟩ := (b1.up good_S hu).at_S hlt
      cases hq : ((x1[k].size : Int) != x0)
      · have HN : Hid ((x1.take (k + 1)).any (badSec x0) = false) := by unfold Hid; rw [any_take_succ _ x1 k hlt, HT.out]; simpa [badSec] using hq
        go_wp2
        go_quiet (fail)
        go_wp2
        go_roundw
        case rel => exact ⟨k + 1, by omega, by go_num, HN, hu.drewN _, kb.drewN _⟩
        case measure => simp [intOf]; omega
      · have HN : Hid (diskOk (x0, x1, x2) = false) := by unfold Hid; rw [HD.out, any_at _ x1 k hlt (show badSec x0 x1[k] = true from hq)]; simp
        go_wp2
        go_quiet (fail)
        go_wp2
        go_ret
        exact bool_end HN (hu.drewN _)
    · have HS := Lib.hid (any_all _ x1 k HT.out (by omega))
      obtain ⟨wo, rfl⟩ : ∃ wo : World, wo = wr := ⟨_, rfl⟩
      go_wp2_with fail
      go_loopw [5] (fun i wr => ∃ k : Nat, k ≤ x2.length ∧ i = .int .i64 k ∧ Hid ((x2.take k).any (badPut x1.length x0) = false) ∧ Up w wr ∧ Bk wr w.heap.size 70 #[.int .i64 x0, .slice A1 x1.length c1, .slice A2 x2.length c2]) (fun i _ => x2.length - (intOf i).toNat)
      case atStart => exact ⟨0, Nat.zero_le _, rfl, rfl, hu, kb⟩
      case round =>
        clear g0 g1 g2 hu kb
        obtain ⟨k, hk, rfl, HT, hu, kb⟩ := hrel
        have g0 : wr.cell? ⟨w.heap.size, 0, none⟩ = some (.int .i64 x0) := kb.cell 0
        have g1 : wr.cell? ⟨w.heap.size, 1, none⟩ = some (.slice A1 x1.length c1) := kb.cell 1
        have g2 : wr.cell? ⟨w.heap.size, 2, none⟩ = some (.slice A2 x2.length c2) := kb.cell 2
        by_cases hlt : k < x2.length
        · obtain ⟨g, off, rfl, _, _, hc0, hc1, e0, e1, _⟩ := atPut (b2.up good_Put hu) hlt
          unfold maxLen at e1
          cases hq : inB x2[k].1 0 (x1.length - 1)
          · have HN : Hid (diskOk (x0, x1, x2) = false) := by unfold Hid; rw [HD.out, any_at _ x2 k hlt (show badPut x1.length x0 x2[k] = true by unfold badPut; rw [hq]; rfl)]; simp
            go_wp2
            go_quiet ((go_at_call 88; exact Calls.quiet_of_same ((in_any _ _ _ _).mono (fun _ _ h => ⟨h.1, h.2.symm⟩))))
            go_wp2
            go_ret
            exact bool_end HN (hu.drewN _)
          · cases hp : ((x2[k].2.size : Int) != x0)
            · have HN : Hid ((x2.take (k + 1)).any (badPut x1.length x0) = false) := by unfold Hid; rw [any_take_succ _ x2 k hlt, HT.out]; unfold badPut; rw [hq, hp]; rfl
              go_wp2
              go_quiet ((go_at_call 88; exact Calls.quiet_of_same ((in_any _ _ _ _).mono (fun _ _ h => ⟨h.1, h.2.symm⟩))))
              go_wp2
              go_roundw
              case rel => exact ⟨k + 1, by omega, by go_num, HN, hu.drewN _, kb.drewN _⟩
              case measure => simp [intOf]; omega
            · have HN : Hid (diskOk (x0, x1, x2) = false) := by unfold Hid; rw [HD.out, any_at _ x2 k hlt (show badPut x1.length x0 x2[k] = true by unfold badPut; rw [hp]; simp)]; simp
              go_wp2
              go_quiet ((go_at_call 88; exact Calls.quiet_of_same ((in_any _ _ _ _).mono (fun _ _ h => ⟨h.1, h.2.symm⟩))))
              go_wp2
              go_ret
              exact bool_end HN (hu.drewN _)
        · have HN : Hid (diskOk (x0, x1, x2) = true) := by unfold Hid; rw [HD.out, HS.out, any_all _ x2 k HT.out (by omega)]; rfl
          go_wp2
          go_ret
          exact bool_end HN hu

end Go.Proofs.YtpjcgglhlmifdaaGreatDoor

namespace Go.Proofs.YtpjcgglhlmifdaaGreatDoor
open Go.RowKit
set_option linter.unusedVariables false
set_option linter.unusedSimpArgs false

theorem Bk.but {w w' : World} {g g' : Nat} {t : TypeId} {C : Array Value} (h : Bk w g t C) (k : But g' w w') (hg : g ≠ g') : Bk w' g t C := (k.block g hg).trans h
end Go.Proofs.YtpjcgglhlmifdaaGreatDoor

namespace Go.Proofs.YtpjcgglhlmifdaaGreatDoor
open Go.RowKit
set_option linter.unusedVariables false
set_option linter.unusedSimpArgs false
end Go.Proofs.YtpjcgglhlmifdaaGreatDoor

namespace Go.Proofs.YtpjcgglhlmifdaaGreatDoor
open Go.RowKit
set_option linter.unusedVariables false

end Go.Proofs.YtpjcgglhlmifdaaGreatDoor

namespace Go.Proofs.YtpjcgglhlmifdaaGreatDoor
open Go.RowKit Go.Maps
set_option linter.unusedVariables false

/-- Block b is a map of at most n entries; number i is in it just if f i. -/
def ISet (P : Program) (k e : TypeId) (w : World) (b n : Nat) (f : Int → Bool) : Prop :=
  ∃ D : DataW Unit, w.ownsMap P k (plainElem P e) b n D ∧ ∀ i : Int, I64 i → D.atKey (.int .i64 i) (.lit (.bool false)) = .lit (.bool (f i))
section
variable {P : Program} {k e : TypeId} {w w' : World} {b n : Nat} {f : Int → Bool}
theorem i64_wf {i : Int} (h : I64 i) : (Lit.int .i64 i).wf = true := by
  obtain ⟨h1, h2⟩ := h
  simp [Lit.wf, IntKind.min, IntKind.max, IntKind.signed, IntKind.bits]
  omega
theorem ISet.made (w : World) : ISet P k e (w.alloc (.map #[] 0)) w.heap.size 0 (fun _ => false) :=
  ⟨.map [], World.ownsMap_made w P k _, fun i _ => by simp [DataW.atKey]⟩
theorem ISet.lt (h : ISet P k e w b n f) : b < w.heap.size := by obtain ⟨D, h, _⟩ := h; exact h.lt
theorem ISet.same (h : ISet P k e w b n f) (hk : w'.heap[b]? = w.heap[b]?) : ISet P k e w' b n f := by
  obtain ⟨D, ⟨es, clock, hb, F, hs, hD⟩, h2⟩ := h
  exact ⟨D, ⟨es, clock, hk.trans hb, F, hs, hD⟩, h2⟩
theorem ISet.up (h : ISet P k e w b n f) (u : Up w w') : ISet P k e w' b n f := h.same (u.block b h.lt)
theorem ISet.drew (h : ISet P k e w b n f) : ISet P k e w.drew b n f := h
theorem ISet.drewN (h : ISet P k e w b n f) (m : Nat) : ISet P k e (w.drewN m) b n f := h
theorem plainElem_bool_inv {H : Type} (he : P.underlying e = some .bool) {v : Value} {z : DataW H × List MemPlace} (h : plainElem P e v = some z) : ∃ x, v = .bool x ∧ z = (.lit (.bool x), []) := by
  unfold plainElem at h
  rw [he] at h
  cases v <;> simp at h
  exact ⟨_, rfl, h.symm⟩
theorem ISet.look {t : TypeId} (h : ISet P k e w b n f) (hk : P.underlying k = some (.int .i64)) (ht : P.underlying t = some (.map k e)) (he : P.underlying e = some .bool) (hz : (zeroValue e).run P w = .ok (.bool false) w) {i : Int} (hi : I64 i) :
    (Instr.lookup t (.map (some b)) (.int .i64 i) false).run P w = .ok (.bool (f i)) w := by
  obtain ⟨D, ho, hf⟩ := h
  obtain ⟨v, ps, hrun, hv⟩ := ho.lookup (int_keyed hk) ht hz (plainElem_bool he false) (keyOf_int_mk hk (i64_wf hi))
  obtain ⟨x, rfl, hx⟩ := plainElem_bool_inv he hv
  rw [hf i hi] at hx
  simp at hx
  rw [hrun, hx.1]
theorem ISet.add {t : TypeId} (h : ISet P k e w b n f) (hk : P.underlying k = some (.int .i64)) (ht : P.underlying t = some (.map k e)) (he : P.underlying e = some .bool) (hn : n < maxLen) {i : Int} (hi : I64 i) (v : Bool) :
    ∃ w', (Instr.mapUpdate t (.map (some b)) (.int .i64 i) (.bool v)).run P w = .ok () w' ∧ ISet P k e w' b (n + 1) (fun j => if j = i then v else f j) ∧ w.grownBy w' (some b) := by
  obtain ⟨D, ho, hf⟩ := h
  have hm := ho.isMap
  obtain ⟨w', hrun, ho', hg⟩ := ho.update (int_keyed hk) ht hn (keyOf_int_mk hk (i64_wf hi)) (plainElem_bool he v)
  refine ⟨w', hrun, ⟨_, ho', fun j hj => ?_⟩, hg⟩
  by_cases e : j = i
  · subst e
    rw [atKey_put_same hm (by simp [WideAt.IsKeyLit])]
    simp
  · rw [atKey_put_other (by simpa using e), hf j hj]
    simp [e]
theorem Only.of_grown {w w' : World} {b : Nat} (h : w.grownBy w' (some b)) : Only [b] w w' :=
  ⟨h.os, h.tape, h.output, h.size, fun k hk hn => h.block k hk (fun e => hn (by injection e with e; simp [e]))⟩
end
end Go.Proofs.YtpjcgglhlmifdaaGreatDoor

namespace Go.Proofs.YtpjcgglhlmifdaaGreatDoor
open Go.RowKit
set_option linter.unusedVariables false
set_option linter.unusedSimpArgs false

theorem Bk.range {w : World} {g : Nat} {t : TypeId} {C : Array Value} (k : Bk w g t C) (o : Nat) (cs : List Value) (h : (C.toList.drop o).take cs.length = cs) : w.rangeAt g o cs := fun j v hv => by
  rw [k.cell, ← hv, ← h]
  have hj : j < cs.length := (List.getElem?_eq_some_iff.1 hv).1
  rw [List.getElem?_take, if_pos hj, List.getElem?_drop, Array.getElem?_toList]
theorem Bk.there {w : World} {g : Nat} {t : TypeId} {C : Array Value} (k : Bk w g t C) (o n : Nat) (h : o + n ≤ C.size) : w.there g o n := fun j hj => by
  refine ⟨?_, k.frozen _⟩
  rw [k.cell, Array.getElem?_eq_getElem (by omega)]
  rfl
theorem setCells_wld (g : Nat) : ∀ (cs : List Value) (w : World) (p : Nat), w.setCells g p cs = setCells w g p cs
  | [], _, _ => rfl
  | c :: cs, w, p => setCells_wld g cs _ _
/-- The cells 'cs' put over those of a list from the p-th on (in list form: the array's own form is dear to reckon). -/
def putL : List Value → Nat → List Value → List Value
  | [], _, _ => []
  | x :: l, 0, c :: cs => c :: putL l 0 cs
  | x :: l, 0, [] => x :: l
  | x :: l, p + 1, cs => x :: putL l p cs
theorem putL_nil : ∀ (l : List Value) (p : Nat), putL l p [] = l
  | [], _ => rfl
  | _ :: _, 0 => rfl
  | x :: l, p + 1 => by rw [putL, putL_nil l p]
theorem putL_set (c : Value) (cs : List Value) : ∀ (l : List Value) (p : Nat), putL (l.set p c) (p + 1) cs = putL l p (c :: cs)
  | [], _ => rfl
  | x :: l, 0 => by rw [List.set_cons_zero, putL, putL]
  | x :: l, p + 1 => by rw [List.set_cons_succ, putL, putL, putL_set c cs l p]
theorem putCells_eq : ∀ (cs : List Value) (C : Array Value) (p : Nat), putCells C p cs = (putL C.toList p cs).toArray
  | [], C, p => by rw [putL_nil]; rfl
  | c :: cs, C, p => by
    show putCells (C.setIfInBounds p c) (p + 1) cs = _
    rw [putCells_eq cs, Array.toList_setIfInBounds, putL_set]
theorem Bk.setsL {w : World} {g : Nat} {t : TypeId} {C : Array Value} (k : Bk w g t C) (cs : List Value) (p : Nat) : Bk (setCells w g p cs) g t (putL C.toList p cs).toArray := putCells_eq cs C p ▸ k.sets cs p
section
variable {P : Program} {ops : Array Oper} {rest : List Oper} {dst : Option Tmp} {ty ty' : TypeId} {x y : Operand} {pos : String} {after : Array Edge} {a : Act} {w : World} {Q : Exit → Act → World → Prop} {g o : Nat} {t : TypeId} {C : Array Value}
theorem wpList_load_bk (cs : List Value) (k : Bk w g t C) {d : TypeDesc} (hx : a.eval x = .pointer (some ⟨g, o, none⟩)) (hu : P.underlying ty = some d) (hd : d.isRow = true)
    (hi : (P.info? ty).map (·.size) = some cs.length) (hcs : (C.toList.drop o).take cs.length = cs) (h : wpList P ops Q rest (a.put dst (.agg cs.toArray)) w) :
    wpList P ops Q ((⟨dst, .load ty x, ty', pos, after, none⟩ : Oper) :: rest) a w :=
  wpList_load_mid rfl ty x rfl g o hx cs d (k.range o cs hcs) hu hd hi h
theorem wpList_store_bk (cs : List Value) (k : Bk w g t C) (hx : a.eval x = .pointer (some ⟨g, o, none⟩)) (hy : a.eval y = .agg cs.toArray)
    (hi : (P.info? ty).map (·.size) = some cs.length) (h1 : cs.all (·.oneCell') = true) (hn : o + cs.length ≤ C.size)
    (h : ∀ W, But g w W → Bk W g t (putL C.toList o cs).toArray → wpList P ops Q rest (a.put dst undef) W) :
    wpList P ops Q ((⟨dst, .store ty x y, ty', pos, after, none⟩ : Oper) :: rest) a w := by
  refine wpList_store_mid rfl ty x y rfl g o cs.toArray hx hy (k.there o _ (by simpa using hn)) (by simpa using hi) (by simpa using h1) ?_
  rw [List.toList_toArray, setCells_wld]
  exact h _ (But.sets cs w o) (putCells_eq cs C o ▸ k.sets cs o)
theorem run_storeVar_one (w : World) (b o : Nat) (ty : TypeId) (v : Value) (ht : w.there b o 1) (hi : (P.info? ty).map (·.size) = some 1) (hv : v.cells = #[v]) (h1 : v.oneCell' = true) :
    (storeVar ty ⟨b, o, none⟩ v).run P w = .ok () (w.setCell ⟨b, o, none⟩ v) := by
  have := run_storeCells_cells (P := P) b o [v] 0 w (fun j hj => by simpa using (ht j (by simpa using hj)).1) (fun j hj => by simpa using (ht j (by simpa using hj)).2) (fun u hu => by simp at hu; subst hu; exact h1)
  cases hq : P.info? ty with
  | none => simp [hq] at hi
  | some i =>
    have hs : i.size = 1 := by simpa [hq] using hi
    simp only [Nat.add_zero] at this
    simp [storeVar, sizeOf, typeInfo, hq, hv, hs, this, World.setCells]
theorem wpList_store1_bk (v : Value) (k : Bk w g t C) (hx : a.eval x = .pointer (some ⟨g, o, none⟩)) (hy : a.eval y = v)
    (hi : (P.info? ty).map (·.size) = some 1) (hv : v.cells = #[v]) (h1 : v.oneCell' = true) (hn : o + 1 ≤ C.size)
    (h : ∀ W, But g w W → Bk W g t (putL C.toList o [v]).toArray → wpList P ops Q rest (a.put dst undef) W) :
    wpList P ops Q ((⟨dst, .store ty x y, ty', pos, after, none⟩ : Oper) :: rest) a w := by
  refine wpList_plain rfl fun K hK => ?_
  unfold Oper.wp execOp
  simp only [hx, hy, Instr.storeAt, Instr.sureAddr, Sem.run_bind, Sem.run_pure, Result.andThen_ok, run_storeVar_one w g o ty v (k.there o 1 hn) hi hv h1]
  exact hK _ _ (h _ (But.set w g o v) (putCells_eq [v] C o ▸ k.set o v))
end
theorem Bk.butM {w w' : World} {g g' : Nat} {t : TypeId} {C : Array Value} (h : Bk w g t C) (k : But g' w w') (hg : g ≠ g') : Bk w' g t C := (k.block g hg).trans h
theorem run_loadVar_bk {P : Program} {w : World} {g : Nat} {t : TypeId} {C : Array Value} (k : Bk w g t C) (ty : TypeId) {d : TypeDesc} (hu : P.underlying ty = some d) (hd : d.isRow = true) (hi : (P.info? ty).map (·.size) = some C.size) :
    (loadVar ty ⟨g, 0, none⟩).run P w = .ok (.agg C) w := by
  have h := run_loadVar_mid (P := P) w g 0 ty C.toList d (k.range 0 C.toList (by rw [List.drop_zero, List.take_length])) hu hd (by simpa using hi)
  simpa using h
theorem results_bk {P : Program} {fn : Func} {tmps : Array Value} {w : World} {g : Nat} {t : TypeId} {C : Array Value} (k : Bk w g t C) (n : Nat) (ty : TypeId) {d : TypeDesc} (hr : fn.results = #[.cell n ty]) (ht : tmps.getD n undef = .pointer (some ⟨g, 0, none⟩))
    (hu : P.underlying ty = some d) (hd : d.isRow = true) (hi : (P.info? ty).map (·.size) = some C.size) : (results fn tmps).run P w = .ok (.agg C) w := by
  have h := run_loadVar_bk (P := P) k ty hu hd hi
  unfold results
  rw [hr]
  simp only [List.mapM_toArray, List.mapM_cons, List.mapM_nil, ht, asAddr, Sem.run_bind, Sem.run_pure, Result.andThen_ok, h, pure_bind, map_pure, Sem.run_map]
  simp [h]
theorem SO.but {α : Type} {s : Sh α} (hg : Good s) {w w' : World} {lo g : Nat} {A : Option Addr} {c : Nat} {xs : List α} {bl : List Nat} (h : SO s w lo w.heap.size A c xs bl) (b : But g w w') (hlt : g < lo) : SO s w' lo w'.heap.size A c xs bl := by
  rw [b.size]
  exact h.keep hg (fun x hx => b.block x (by have := (h.in_ hg x hx).1; omega))
theorem own_but {α : Type} {s : Sh α} (hg : Good s) {w w' : World} {lo g : Nat} {cs : List Value} {x : α} {bl : List Nat} (h : s.own w lo w.heap.size cs x bl) (b : But g w w') (hlt : g < lo) : s.own w' lo w'.heap.size cs x bl := by
  rw [b.size]
  exact hg.own_keep h (fun x hx => b.block x (by have := (hg.own_in h x hx).1; omega))
end Go.Proofs.YtpjcgglhlmifdaaGreatDoor
