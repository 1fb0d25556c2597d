/-
  spec.Unstamped and impl.Unstamped compute one function; the law returns true.
-/
import Derived.Test.YtaobkpaefelkkaaRows
import Derived.Test.YtaobkpaefelkkaaRep
import Derived.Test.YtaobkpaefelkkaaBas
namespace Go.Proofs.Ytaobkpaefelkkaa
open Go.RowKit

def unst (s : ByteArray) (l : Int) : ByteArray × ByteArray × Bool :=
  if inB l 1 16 && inB s.size (2 * l) 2000 && ((s.extract 0 l.toNat).toList == (s.extract ((s.size : Int) - l).toNat s.size).toList) then (s.extract 0 l.toNat, s.extract l.toNat ((s.size : Int) - l).toNat, true)
  else (⟨#[]⟩, ⟨#[]⟩, false)

def Three (p : ByteArray × ByteArray × Bool) (w : World) (e : Ending) (w' : World) : Prop := e = .returned (.tuple #[.string p.1, .string p.2.1, .bool p.2.2]) ∧ ∃ n, w' = w.drewN n


theorem unst_no {s : ByteArray} {l : Int} (h : ¬ (inB l 1 16 = true ∧ inB s.size (2 * l) 2000 = true ∧ ((s.extract 0 l.toNat).toList == (s.extract ((s.size : Int) - l).toNat s.size).toList) = true)) : Hid (unst s l = (⟨#[]⟩, ⟨#[]⟩, false)) := by
  unfold unst Hid; rw [if_neg]; simpa [and_assoc] using h
theorem unst_yes {s : ByteArray} {l : Int} (h1 : inB l 1 16 = true) (h2 : inB s.size (2 * l) 2000 = true) (h3 : ((s.extract 0 l.toNat).toList == (s.extract ((s.size : Int) - l).toNat s.size).toList) = true) : Hid (unst s l = (s.extract 0 l.toNat, s.extract l.toNat ((s.size : Int) - l).toNat, true)) := by
  unfold unst Hid; rw [if_pos]; simp [h1, h2, h3]
theorem three_end {p : ByteArray × ByteArray × Bool} {a b : ByteArray} {c : Bool} {w w' : World} (h : Hid (p = (a, b, c))) (hw : ∃ n, w' = w.drewN n) : Three p w (.returned (.tuple #[.string a, .string b, .bool c])) w' := by
  rw [h.out]; exact ⟨rfl, hw⟩

set_option maxHeartbeats 400000 in
theorem impl_unst (s : ByteArray) (l : Int) (w : World) (hs : s.size ≤ maxLen) : Calls Try.prog 15 #[.string s, .int .i64 l] w (Three (unst s l) w) := by
  unfold maxLen at hs
  cases h1 : inB l 1 16
  · have H := unst_no (s := s) (l := l) (by rw [h1]; simp)
    go_enter Try.func15, Try.ntmps15
    go_wp2
    go_quiet ((go_at_call 53; exact Calls.quiet_of_same ((within_any _ _ _ _).mono (fun _ _ h => ⟨h.1, h.2.symm⟩))))
    go_wp2
    go_ret3
    exact three_end H (by first | exact qq1 _ _ | exact qq2 _ _ _)
  · obtain ⟨a1, a2⟩ := inB_t.1 h1
    cases h2 : inB s.size (2 * l) 2000
    · have H := unst_no (s := s) (l := l) (by rw [h2]; simp)
      go_enter Try.func15, Try.ntmps15
      go_wp2
      go_quiet ((go_at_call 53; exact Calls.quiet_of_same ((within_any _ _ _ _).mono (fun _ _ h => ⟨h.1, h.2.symm⟩))))
      go_wp2
      go_ret3
      exact three_end H (by first | exact qq1 _ _ | exact qq2 _ _ _)
    · obtain ⟨a3, a4⟩ := inB_t.1 h2
      cases h3 : ((s.extract 0 l.toNat).toList == (s.extract ((s.size : Int) - l).toNat s.size).toList)
      · have H := unst_no (s := s) (l := l) (by rw [h3]; simp)
        go_enter Try.func15, Try.ntmps15
        go_wp2
        go_quiet ((go_at_call 53; exact Calls.quiet_of_same ((within_any _ _ _ _).mono (fun _ _ h => ⟨h.1, h.2.symm⟩))))
        go_wp2
        go_ret3
        exact three_end H (by first | exact qq1 _ _ | exact qq2 _ _ _)
      · have H := unst_yes h1 h2 h3
        go_enter Try.func15, Try.ntmps15
        go_wp2
        go_quiet ((go_at_call 53; exact Calls.quiet_of_same ((within_any _ _ _ _).mono (fun _ _ h => ⟨h.1, h.2.symm⟩))))
        go_wp2
        go_quiet (fail)
        go_wp2
        go_ret3
        exact three_end H (by first | exact qq1 _ _ | exact qq2 _ _ _)

set_option maxHeartbeats 400000 in
theorem spec_unst (s : ByteArray) (l : Int) (w : World) (hs : s.size ≤ maxLen) : Calls Try.prog 14 #[.string s, .int .i64 l] w (Three (unst s l) w) := by
  unfold maxLen at hs
  by_cases h0 : (2000 : Int) < s.size
  · have H := unst_no (s := s) (l := l) (by rw [inB_t, inB_t]; omega)
    go_enter Try.func14, Try.ntmps14
    go_wp2
    go_quiet ((go_at_call 52; exact Calls.quiet_of_same ((in_any _ _ _ _).mono (fun _ _ h => ⟨h.1, h.2.symm⟩))))
    go_wp2
    go_ret3
    exact three_end H (by first | exact qq1 _ _ | exact qq2 _ _ _)
  · have h0' : decide ((2000 : Int) < s.size) = false := by simpa using h0
    cases h1 : inB l 1 16
    · have H := unst_no (s := s) (l := l) (by rw [h1]; simp)
      go_enter Try.func14, Try.ntmps14
      go_wp2
      go_quiet ((go_at_call 52; exact Calls.quiet_of_same ((in_any _ _ _ _).mono (fun _ _ h => ⟨h.1, h.2.symm⟩))))
      go_wp2
      go_ret3
      exact three_end H (by first | exact qq1 _ _ | exact qq2 _ _ _)
    · obtain ⟨a1, a2⟩ := inB_t.1 h1
      by_cases h2 : (s.size : Int) < 2 * l
      · have H := unst_no (s := s) (l := l) (by rw [inB_t, inB_t]; omega)
        go_enter Try.func14, Try.ntmps14
        go_wp2
        go_quiet ((go_at_call 52; exact Calls.quiet_of_same ((in_any _ _ _ _).mono (fun _ _ h => ⟨h.1, h.2.symm⟩))))
        go_wp2
        go_ret3
        exact three_end H (by first | exact qq1 _ _ | exact qq2 _ _ _)
      · have h2' : decide ((s.size : Int) < 2 * l) = false := by simpa using h2
        have h4 : inB s.size (2 * l) 2000 = true := inB_t.2 (by omega)
        have H4 := Lib.hid h4; clear h4
        cases h3 : ((s.extract 0 l.toNat).toList == (s.extract ((s.size : Int) - l).toNat s.size).toList)
        · have H := unst_no (s := s) (l := l) (by rw [h3]; simp)
          go_enter Try.func14, Try.ntmps14
          go_wp2
          go_quiet ((go_at_call 52; exact Calls.quiet_of_same ((in_any _ _ _ _).mono (fun _ _ h => ⟨h.1, h.2.symm⟩))))
          go_wp2
          go_ret3
          exact three_end H (by first | exact qq1 _ _ | exact qq2 _ _ _)
        · have H := unst_yes h1 H4.out h3
          go_enter Try.func14, Try.ntmps14
          go_wp2
          go_quiet ((go_at_call 52; exact Calls.quiet_of_same ((in_any _ _ _ _).mono (fun _ _ h => ⟨h.1, h.2.symm⟩))))
          go_wp2
          go_quiet (fail)
          go_wp2
          go_ret3
          exact three_end H (by first | exact qq1 _ _ | exact qq2 _ _ _)

theorem w_FnExactUnstamped (s : ByteArray) (hs : s.size ≤ maxLen) (l : Int) (_hl : I64 l) (w : World) : Calls Try.prog 3 #[.string s, .int .i64 l] w fun e w' => e = .returned (.bool true) ∧ Below w.heap.size w w' := by
  have hs' := hs
  unfold maxLen at hs'
  go_enter Try.func3, Try.ntmps3
  go_wp2_with fail
  · go_ret
    exact ⟨rfl, Below.refl _ _⟩
  · refine (spec_unst _ _ _ hs).mono ?_
    rintro e w' ⟨rfl, n, rfl⟩
    go_wp2_with fail
    refine (impl_unst _ _ _ hs).mono ?_
    rintro e w' ⟨rfl, m, rfl⟩
    go_wp2_with fail
    go_ret
    exact ⟨rfl, ⟨rfl, rfl, rfl, Nat.le_refl _, fun _ _ => rfl⟩⟩

end Go.Proofs.Ytaobkpaefelkkaa
