/-
  Strings of zero bytes: make and strings.Repeat.
-/
import Derived.Test.YtfehlcbaalbajaaGreatDoorRows
import Derived.Test.YtfehlcbaalbajaaGreatDoorRep2
import Derived.Test.YtfehlcbaalbajaaGreatDoorBas
import Derived.Test.YtfehlcbaalbajaaGreatDoorShelf
import Derived.Lib.SlBytesRow
import Derived.Lib.Repeat
namespace Go.Proofs.YtfehlcbaalbajaaGreatDoor
open Go.RowKit
set_option linter.unusedVariables false

def zs (n : Nat) : ByteArray := ⟨(List.replicate n 0).toArray⟩
theorem zs_size (n : Nat) : (zs n).size = n := by simp [zs, ByteArray.size]
theorem repeat_zero (n : Nat) : Lib.repeatL [0] n = List.replicate n 0 := by
  induction n with
  | zero => rfl
  | succ n ih => rw [Lib.repeatL, ih]; rfl

theorem info_B8 : (Tryz.prog.info? 5).map (fun i => (i.zero, i.size, i.bytes)) = some (some (.int .u8 0), 1, 1) := by kernel_rfl
/-- make([]byte, n), and its conversion to a string. -/
theorem run_zs (n : Nat) (hn : n ≤ 281474976710656) : ∃ C : Array Value,
    (∀ W : World, (Instr.makeSlice 132 (.int .i64 (n : Int)) (.int .i64 (n : Int))).run Tryz.prog W = .ok (.slice (some ⟨W.heap.size, 0, none⟩) n n) (W.alloc (.cells C 5))) ∧
    (∀ W : World, (convert 132 9 (.slice (some ⟨W.heap.size, 0, none⟩) n n)).run Tryz.prog (W.alloc (.cells C 5)) = .ok (.string (zs n)) (W.alloc (.cells C 5))) := by
  obtain ⟨i0, hi0, hz0, hz1, hz2⟩ := info_parts info_B8
  refine ⟨madeCells (Value.cells (.int .u8 0)) (n * 1), fun W => ?_, fun W => ?_⟩
  · have h := run_make_rows (P := Tryz.prog) 132 5 i0 _ Tryz.underlying132 hi0 hz0 n (by rw [hz2]; omega) (by omega) W
    rw [hz1] at h
    exact h
  · have h := Lib.run_convert_whole (P := Tryz.prog) (W.alloc (.cells (madeCells (Value.cells (.int .u8 0)) (n * 1)) 5)) 132 5 9 Tryz.underlying132 Tryz.underlying5 Tryz.underlying9 W.heap.size 0 (zs n) (fun i hi => ?_) n
    · rwa [zs_size] at h
    · rw [(Bk.new W 5 (madeCells (Value.cells (.int .u8 0)) (n * 1))).cell]
      have hi' : i < n := by rwa [zs_size] at hi
      have e : (zs n)[i] = 0 := by simp [zs, ByteArray.getElem_eq_getElem_data]
      rw [e]
      simp [madeCells, Value.cells, hi', Nat.mod_one]

theorem c_zeros (n : Int) (w : World) (h0 : 0 ≤ n) (h1 : n ≤ 1048576) : Calls Tryz.prog 121 #[.int .i64 n] w (RetV (.string (zs n.toNat)) w) := by
  obtain ⟨m, rfl⟩ := Int.eq_ofNat_of_zero_le h0
  have hr := Go.Proofs.Tryz.strings_Repeat ⟨#[0]⟩ m w (by omega) (by show 1 * m ≤ _; omega)
  have HR := Lib.hid hr; clear hr
  have e0 : Hid (⟨(Lib.repeatL (ByteArray.mk #[0]).data.toList m).toArray⟩ = zs m) := by unfold Hid zs; rw [← repeat_zero]
  by_cases hp : (0 : Int) < m
  · go_enter Tryz.func121, Tryz.ntmps121
    go_wp2_with fail
    refine HR.out.mono ?_
    rintro e w1 ⟨rfl, u⟩
    go_wp2_with fail
    go_ret
    exact ⟨by rw [e0.out]; rfl, u⟩
  · obtain rfl : m = 0 := by omega
    go_enter Tryz.func121, Tryz.ntmps121
    go_wp2_with fail
    refine HR.out.mono ?_
    rintro e w1 ⟨rfl, u⟩
    go_wp2_with fail
    go_ret
    exact ⟨rfl, u⟩
end Go.Proofs.YtfehlcbaalbajaaGreatDoor
