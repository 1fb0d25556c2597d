/-
  DiskOk: the program's and the reference's compute one function of a disk.
-/
import Derived.Test.YtfehlcbaalbajaaGreatFun
import Derived.Test.YtfehlcbaalbajaaGreatLz
import Derived.Test.YtfehlcbaalbajaaGreatLe
import Derived.Test.YtfehlcbaalbajaaGreatLt
import Derived.Shelf.Abstract
namespace Go.Proofs.YtfehlcbaalbajaaGreat
open Go.RowKit
set_option linter.unusedVariables false

def badSec (wide : Int) (s : ByteArray) : Bool := (s.size : Int) != wide
def badPut (n wide : Int) (p : TPut) : Bool := !inB p.1 0 (n - 1) || (p.2.size : Int) != wide
def diskOk (d : TDisk) : Bool := inB d.1 1 2000 && inB d.2.1.length 1 400 && !decide ((400 : Int) < d.2.2.length) && !d.2.1.any (badSec d.1) && !d.2.2.any (badPut d.2.1.length d.1)

theorem app_two (a b : Value) : #[a] ++ #[b] = #[a, b] := by simp
theorem bool_end {b c : Bool} {w w' : World} (h : Hid (b = c)) (u : Up w w') : BoolP b w (.returned (.bool c)) w' := ⟨by rw [h.out], u⟩
theorem c_countS (xs : List ByteArray) (A : Option Addr) (c : Nat) (w : World) (h : xs.length ≤ 9223372036854775807) : Calls Tryz.prog 83 #[.slice A xs.length c] w fun e w' => e = .returned (.int .i64 xs.length) ∧ w = w' := by
  go_enter Tryz.func83, Tryz.ntmps83
  go_wp2
  go_ret
  exact ⟨rfl, rfl⟩

set_option maxHeartbeats 1000000 in
theorem c_has (v : Value) (x : TDisk) (n : Int) (w : World) (h : AV shDisk w v x) : Calls Tryz.prog 60 #[v, .int .i64 n] w (BoolP (inB n 0 (x.2.1.length - 1)) w) := by
  obtain ⟨cs, rfl, h⟩ := h
  obtain ⟨x0, x1, x2⟩ := x
  have ho := openDisk h
  dsimp only at ho
  obtain ⟨A1, c1, A2, c2, rfl, b0, b1, b2⟩ := ho
  have hl := b1.len_le
  go_enter Tryz.func60, Tryz.ntmps60
  go_wp2_with fail
  refine (c_countS _ _ _ _ hl).mono ?_
  rintro e w1 ⟨rfl, rfl⟩
  go_wp2_with fail
  refine (within_any _ _ _ _).mono ?_
  rintro e w1 ⟨rfl, rfl⟩
  go_wp2_with fail
  go_ret
  exact ⟨rfl, (Up.refl _).alloc _⟩

theorem c_DiskOk1 (B : Nat) (wide : Int) (s : ByteArray) (w : World) (hs : s.size ≤ 9223372036854775807) (hc : w.cell? ⟨B, 0, none⟩ = some (.int .i64 wide)) :
    Calls Tryz.prog 85 #[.string s, .pointer (some ⟨B, 0, none⟩)] w (BoolP (badSec wide s) w) := by
  go_enter Tryz.func85, Tryz.ntmps85
  go_wp2
  go_ret
  exact ⟨rfl, Up.refl _⟩

set_option maxHeartbeats 1000000 in
theorem c_DiskOk2 (B : Nat) (v : Value) (p : TPut) (d : TDisk) (cs : List Value) (t : TypeId) (w : World) (h : AV shPut w v p) (hB : Bk w B t cs.toArray) (hd : AV shDisk w (.agg cs.toArray) d) :
    Calls Tryz.prog 87 #[v, .pointer (some ⟨B, 0, none⟩)] w (BoolP (badPut d.2.1.length d.1 p) w) := by
  obtain ⟨ps, rfl, h⟩ := h
  obtain ⟨p0, p1⟩ := p
  have ho := openPut h
  dsimp only at ho
  obtain ⟨rfl, b0, b1⟩ := ho
  have hd' := hd
  obtain ⟨ds, hds, hd⟩ := hd
  injection hds with hds
  obtain rfl : cs = ds := congrArg Array.toList hds
  obtain ⟨x0, x1, x2⟩ := d
  have hdo := openDisk hd
  dsimp only at hdo
  obtain ⟨A1, c1, A2, c2, rfl, d0, d1, d2⟩ := hdo
  have g0 : w.cell? ⟨B, 0, none⟩ = some (.int .i64 x0) := hB.cell 0
  have g1 : w.cell? ⟨B, 1, none⟩ = some (.slice A1 x1.length c1) := hB.cell 1
  have g2 : w.cell? ⟨B, 2, none⟩ = some (.slice A2 x2.length c2) := hB.cell 2
  have hlt := hB.lt
  unfold maxLen at b1
  have u0 : Up w (w.alloc (.cells #[.int .i64 p0, .string p1] 99)) := (Up.refl _).alloc _
  go_enter Tryz.func87, Tryz.ntmps87
  go_wp2_with fail
  refine (c_has _ (x0, x1, x2) _ _ (hd'.up good_Disk u0)).mono ?_
  rintro e w1 ⟨rfl, u1⟩
  dsimp only
  have k0 : w1.cell? ⟨B, 0, none⟩ = some (.int .i64 x0) := ((hB.up u0).up u1).cell 0
  have kp : w1.cell? ⟨w.heap.size, 1, none⟩ = some (.string p1) := ((Bk.new w 99 #[.int .i64 p0, .string p1]).up u1).cell 1
  cases hq : inB p0 0 (x1.length - 1)
  · have HB : Hid (badPut x1.length x0 (p0, p1) = true) := by unfold Hid badPut; simp [hq]
    clear hq
    go_wp2_with fail
    go_ret
    exact bool_end HB (u0.trans u1)
  · have HB : Hid (badPut x1.length x0 (p0, p1) = ((p1.size : Int) != x0)) := by unfold Hid badPut; simp [hq]
    clear hq
    go_wp2_with fail
    go_ret
    exact bool_end HB (u0.trans u1)


set_option maxRecDepth 100000 in
theorem eg_DiskOk1 : ∀ args w, (callFunc 85 args).run Tryz.prog w = .ok (.enter 85 args) w := enters_of Tryz.func85 (by kernel_rfl) rfl
set_option maxRecDepth 100000 in
theorem eg_DiskOk2 : ∀ args w, (callFunc 87 args).run Tryz.prog w = .ok (.enter 87 args) w := enters_of Tryz.func87 (by kernel_rfl) rfl

set_option maxRecDepth 100000 in
set_option maxHeartbeats 2000000 in
theorem c_implDiskOk (v : Value) (x : TDisk) (w : World) (h : AV shDisk w v x) : Calls Tryz.prog 55 #[v] w (BoolP (diskOk x) w) := by
  have hv := h
  obtain ⟨cs, rfl, h⟩ := h
  obtain ⟨x0, x1, x2⟩ := x
  have ho := openDisk h
  dsimp only at ho
  obtain ⟨A1, c1, A2, c2, rfl, b0, b1, b2⟩ := ho
  have hl1 := b1.len_le
  have hl2 := b2.len_le
  have u0 : Up w (w.alloc (.cells #[.int .i64 x0, .slice A1 x1.length c1, .slice A2 x2.length c2] 35)) := (Up.refl _).alloc _
  have k0 : Bk (w.alloc (.cells #[.int .i64 x0, .slice A1 x1.length c1, .slice A2 x2.length c2] 35)) w.heap.size 35 #[.int .i64 x0, .slice A1 x1.length c1, .slice A2 x2.length c2] := Bk.new _ _ _
  cases h1 : inB x0 1 2000
  · have HD : Hid (diskOk (x0, x1, x2) = false) := by unfold Hid diskOk; simp [h1]
    go_enter Tryz.func55, Tryz.ntmps55
    go_wp2_with (first | (go_at_call 67; refine (within_any _ _ _ _).mono ?_; rintro e w' ⟨rfl, rfl⟩) | (go_at_call 83; refine (c_countS _ _ _ _ hl1).mono ?_; rintro e w' ⟨rfl, rfl⟩))
    go_ret
    exact bool_end HD u0
  cases h2 : inB x1.length 1 400
  · have HD : Hid (diskOk (x0, x1, x2) = false) := by unfold Hid diskOk; simp [h2]
    go_enter Tryz.func55, Tryz.ntmps55
    go_wp2_with (first | (go_at_call 67; refine (within_any _ _ _ _).mono ?_; rintro e w' ⟨rfl, rfl⟩) | (go_at_call 83; refine (c_countS _ _ _ _ hl1).mono ?_; rintro e w' ⟨rfl, rfl⟩))
    go_ret
    exact bool_end HD u0
  by_cases h3 : (400 : Int) < x2.length
  · have HD : Hid (diskOk (x0, x1, x2) = false) := by unfold Hid diskOk; simp [h3]
    go_enter Tryz.func55, Tryz.ntmps55
    go_wp2_with (first | (go_at_call 67; refine (within_any _ _ _ _).mono ?_; rintro e w' ⟨rfl, rfl⟩) | (go_at_call 83; refine (c_countS _ _ _ _ hl1).mono ?_; rintro e w' ⟨rfl, rfl⟩))
    go_ret
    exact bool_end HD u0
  have HD : Hid (diskOk (x0, x1, x2) = (!x1.any (badSec x0) && !x2.any (badPut x1.length x0))) := by unfold Hid diskOk; simp [h1, h2, h3]
  have h3' : decide ((400 : Int) < x2.length) = false := by simpa using h3
  go_enter Tryz.func55, Tryz.ntmps55
  go_wp2_with (first | (go_at_call 67; refine (within_any _ _ _ _).mono ?_; rintro e w' ⟨rfl, rfl⟩) | (go_at_call 83; refine (c_countS _ _ _ _ hl1).mono ?_; rintro e w' ⟨rfl, rfl⟩))
  have hf1 : ∀ (W : World) (s : ByteArray), s ∈ x1 → Up (w.alloc (.cells #[.int .i64 x0, .slice A1 x1.length c1, .slice A2 x2.length c2] 35)) W → Calls Tryz.prog 85 (#[.string s] ++ #[.pointer (some ⟨w.heap.size, 0, none⟩)]) W (BoolP (badSec x0 s) W) := fun W s hs hW => by
    rw [app_two]
    refine c_DiskOk1 _ x0 s W ?_ ((k0.up hW).cell 0)
    obtain ⟨i, hi, rfl⟩ := List.getElem_of_mem hs
    exact ((b1.at_S hi).elim fun g h => h.elim fun off h => h.2.2.2.2)
  refine (c_ContainsFuncString 85 _ eg_DiskOk1 (badSec x0) _ _ x1 _ (b1.up good_S u0) hf1).mono ?_
  rintro e w1 ⟨rfl, u1⟩
  have k1 := k0.up u1
  have uu1 := u0.trans u1
  have g2 : w1.cell? ⟨w.heap.size, 2, none⟩ = some (.slice A2 x2.length c2) := k1.cell 2
  cases h4 : x1.any (badSec x0)
  · go_wp2_with fail
    have hf2 : ∀ (W : World) (v : Value) (p : TPut), p ∈ x2 → Up w1 W → AV shPut W v p → Calls Tryz.prog 87 (#[v] ++ #[.pointer (some ⟨w.heap.size, 0, none⟩)]) W (BoolP (badPut x1.length x0 p) W) := fun W v p hp hW hav => by
      rw [app_two]
      exact c_DiskOk2 _ v p (x0, x1, x2) _ _ W hav (k1.up hW) (hv.up good_Disk (uu1.trans hW))
    refine (c_ContainsFuncPut 87 _ eg_DiskOk2 (badPut x1.length x0) _ _ x2 _ (b2.up good_Put uu1) hf2).mono ?_
    rintro e w2 ⟨rfl, u2⟩
    have HE : Hid (diskOk (x0, x1, x2) = !x2.any (badPut x1.length x0)) := by unfold Hid; rw [HD.out, h4]; simp
    clear h4
    go_wp2_with fail
    go_ret
    exact bool_end HE (uu1.trans u2)
  · have HE : Hid (diskOk (x0, x1, x2) = false) := by unfold Hid; rw [HD.out, h4]; simp
    clear h4
    go_wp2_with fail
    go_ret
    exact bool_end HE uu1

set_option maxRecDepth 100000 in
set_option maxHeartbeats 4000000 in
theorem c_specDiskOk (v : Value) (x : TDisk) (w : World) (h : AV shDisk w v x) : Calls Tryz.prog 41 #[v] w (BoolP (diskOk x) w) := by
  have hv := h
  obtain ⟨cs, rfl, h⟩ := h
  obtain ⟨x0, x1, x2⟩ := x
  have ho := openDisk h
  dsimp only at ho
  obtain ⟨A1, c1, A2, c2, rfl, b0, b1, b2⟩ := ho
  have hl1 := b1.len_le
  have hl2 := b2.len_le
  have u0 : Up w (w.alloc (.cells #[.int .i64 x0, .slice A1 x1.length c1, .slice A2 x2.length c2] 35)) := (Up.refl _).alloc _
  have k0 : Bk (w.alloc (.cells #[.int .i64 x0, .slice A1 x1.length c1, .slice A2 x2.length c2] 35)) w.heap.size 35 #[.int .i64 x0, .slice A1 x1.length c1, .slice A2 x2.length c2] := Bk.new _ _ _
  cases h1 : inB x0 1 2000
  · have HD : Hid (diskOk (x0, x1, x2) = false) := by unfold Hid diskOk; simp [h1]
    go_enter Tryz.func41, Tryz.ntmps41
    go_wp2_with (go_at_call 19; refine (in_any _ _ _ _).mono ?_; rintro e w' ⟨rfl, rfl⟩)
    go_ret
    exact bool_end HD u0
  by_cases h2 : (x1.length : Int) < 1
  · have HD : Hid (diskOk (x0, x1, x2) = false) := by unfold Hid diskOk; simp only [inB_f.2 (show ¬ (1 ≤ (x1.length : Int) ∧ (x1.length : Int) ≤ 400) by omega)]; simp
    go_enter Tryz.func41, Tryz.ntmps41
    go_wp2_with (go_at_call 19; refine (in_any _ _ _ _).mono ?_; rintro e w' ⟨rfl, rfl⟩)
    go_ret
    exact bool_end HD u0
  have h2' : decide ((x1.length : Int) < 1) = false := by simpa using h2
  by_cases h2b : (400 : Int) < x1.length
  · have HD : Hid (diskOk (x0, x1, x2) = false) := by unfold Hid diskOk; simp only [inB_f.2 (show ¬ (1 ≤ (x1.length : Int) ∧ (x1.length : Int) ≤ 400) by omega)]; simp
    go_enter Tryz.func41, Tryz.ntmps41
    go_wp2_with (go_at_call 19; refine (in_any _ _ _ _).mono ?_; rintro e w' ⟨rfl, rfl⟩)
    go_ret
    exact bool_end HD u0
  have h2b' : decide ((400 : Int) < x1.length) = false := by simpa using h2b
  by_cases h3 : (400 : Int) < x2.length
  · have HD : Hid (diskOk (x0, x1, x2) = false) := by unfold Hid diskOk; simp [h3]
    go_enter Tryz.func41, Tryz.ntmps41
    go_wp2_with (go_at_call 19; refine (in_any _ _ _ _).mono ?_; rintro e w' ⟨rfl, rfl⟩)
    go_ret
    exact bool_end HD u0
  have h3' : decide ((400 : Int) < x2.length) = false := by simpa using h3
  have hin : inB x1.length 1 400 = true := inB_t.2 (by omega)
  have HD : Hid (diskOk (x0, x1, x2) = (!x1.any (badSec x0) && !x2.any (badPut x1.length x0))) := by unfold Hid diskOk; simp [h1, hin, h3]
  clear hin
  go_enter Tryz.func41, Tryz.ntmps41
  go_wp2_with (go_at_call 19; refine (in_any _ _ _ _).mono ?_; rintro e w' ⟨rfl, rfl⟩)
  go_loopw [4] (fun i wr => ∃ k : Nat, k ≤ x1.length ∧ i = .int .i64 k ∧ Hid ((x1.take k).any (badSec x0) = false) ∧ Up w wr ∧ Bk wr w.heap.size 35 #[.int .i64 x0, .slice A1 x1.length c1, .slice A2 x2.length c2]) (fun i _ => x1.length - (intOf i).toNat)
  case atStart => exact ⟨0, Nat.zero_le _, rfl, rfl, u0, k0⟩
  case round =>
    obtain ⟨k, hk, rfl, HT, hu, kb⟩ := hrel
    have g0 : wr.cell? ⟨w.heap.size, 0, none⟩ = some (.int .i64 x0) := kb.cell 0
    have g1 : wr.cell? ⟨w.heap.size, 1, none⟩ = some (.slice A1 x1.length c1) := kb.cell 1
    have g2 : wr.cell? ⟨w.heap.size, 2, none⟩ = some (.slice A2 x2.length c2) := kb.cell 2
    by_cases hlt : k < x1.length
    · obtain ⟨g, off, rfl, _, _, hc, hb⟩ := (b1.up good_S hu).at_S hlt
      cases hq : ((x1[k].size : Int) != x0)
      · have HN : Hid ((x1.take (k + 1)).any (badSec x0) = false) := by unfold Hid; rw [any_take_succ _ x1 k hlt, HT.out]; simpa [badSec] using hq
        go_wp2
        go_quiet (fail)
        go_wp2
        go_roundw
        case rel => exact ⟨k + 1, by omega, by go_num, HN, hu.drewN _, kb.drewN _⟩
        case measure => simp [intOf]; omega
      · have HN : Hid (diskOk (x0, x1, x2) = false) := by unfold Hid; rw [HD.out, any_at _ x1 k hlt (show badSec x0 x1[k] = true from hq)]; simp
        go_wp2
        go_quiet (fail)
        go_wp2
        go_ret
        exact bool_end HN (hu.drewN _)
    · have HS := Lib.hid (any_all _ x1 k HT.out (by omega))
      obtain ⟨wo, rfl⟩ : ∃ wo : World, wo = wr := ⟨_, rfl⟩
      go_wp2_with fail
      go_loopw [5] (fun i wr => ∃ k : Nat, k ≤ x2.length ∧ i = .int .i64 k ∧ Hid ((x2.take k).any (badPut x1.length x0) = false) ∧ Up w wr ∧ Bk wr w.heap.size 35 #[.int .i64 x0, .slice A1 x1.length c1, .slice A2 x2.length c2]) (fun i _ => x2.length - (intOf i).toNat)
      case atStart => exact ⟨0, Nat.zero_le _, rfl, rfl, hu, kb⟩
      case round =>
        clear g0 g1 g2 hu kb
        obtain ⟨k, hk, rfl, HT, hu, kb⟩ := hrel
        have g0 : wr.cell? ⟨w.heap.size, 0, none⟩ = some (.int .i64 x0) := kb.cell 0
        have g1 : wr.cell? ⟨w.heap.size, 1, none⟩ = some (.slice A1 x1.length c1) := kb.cell 1
        have g2 : wr.cell? ⟨w.heap.size, 2, none⟩ = some (.slice A2 x2.length c2) := kb.cell 2
        by_cases hlt : k < x2.length
        · obtain ⟨g, off, rfl, _, _, hc0, hc1, e0, e1, _⟩ := atPut (b2.up good_Put hu) hlt
          unfold maxLen at e1
          cases hq : inB x2[k].1 0 (x1.length - 1)
          · have HN : Hid (diskOk (x0, x1, x2) = false) := by unfold Hid; rw [HD.out, any_at _ x2 k hlt (show badPut x1.length x0 x2[k] = true by unfold badPut; rw [hq]; rfl)]; simp
            go_wp2
            go_quiet ((go_at_call 19; exact Calls.quiet_of_same ((in_any _ _ _ _).mono (fun _ _ h => ⟨h.1, h.2.symm⟩))))
            go_wp2
            go_ret
            exact bool_end HN (hu.drewN _)
          · cases hp : ((x2[k].2.size : Int) != x0)
            · have HN : Hid ((x2.take (k + 1)).any (badPut x1.length x0) = false) := by unfold Hid; rw [any_take_succ _ x2 k hlt, HT.out]; unfold badPut; rw [hq, hp]; rfl
              go_wp2
              go_quiet ((go_at_call 19; exact Calls.quiet_of_same ((in_any _ _ _ _).mono (fun _ _ h => ⟨h.1, h.2.symm⟩))))
              go_wp2
              go_roundw
              case rel => exact ⟨k + 1, by omega, by go_num, HN, hu.drewN _, kb.drewN _⟩
              case measure => simp [intOf]; omega
            · have HN : Hid (diskOk (x0, x1, x2) = false) := by unfold Hid; rw [HD.out, any_at _ x2 k hlt (show badPut x1.length x0 x2[k] = true by unfold badPut; rw [hp]; simp)]; simp
              go_wp2
              go_quiet ((go_at_call 19; exact Calls.quiet_of_same ((in_any _ _ _ _).mono (fun _ _ h => ⟨h.1, h.2.symm⟩))))
              go_wp2
              go_ret
              exact bool_end HN (hu.drewN _)
        · have HN : Hid (diskOk (x0, x1, x2) = true) := by unfold Hid; rw [HD.out, HS.out, any_all _ x2 k HT.out (by omega)]; rfl
          go_wp2
          go_ret
          exact bool_end HN hu

theorem cs_DiskOk (v0 : Value) (x0 : TDisk) (w : World) (h0 : AV shDisk w v0 x0) (_n0 : shDisk.sz x0 ≤ 1048576) : Calls Tryz.prog 41 #[v0] w (RetV (.bool (diskOk x0)) w) := c_specDiskOk v0 x0 w h0
theorem ci_DiskOk (v0 : Value) (x0 : TDisk) (w : World) (h0 : AV shDisk w v0 x0) (_n0 : shDisk.sz x0 ≤ 1048576) : Calls Tryz.prog 55 #[v0] w (RetV (.bool (diskOk x0)) w) := c_implDiskOk v0 x0 w h0
end Go.Proofs.YtfehlcbaalbajaaGreat
