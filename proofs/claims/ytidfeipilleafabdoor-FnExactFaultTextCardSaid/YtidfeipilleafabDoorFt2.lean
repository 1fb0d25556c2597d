/-
  FaultText: the program's and the reference's give one string; the law returns true.
-/
import Derived.Test.YtidfeipilleafabDoorFt
namespace Go.Proofs.YtidfeipilleafabDoor
open Go.RowKit
set_option linter.unusedVariables false
set_option linter.unusedSimpArgs false

theorem itoaS_size {n : Int} (h0 : -9223372036854775808 ≤ n) (h1 : n ≤ 9223372036854775807) : (itoaS n).size ≤ 21 := by
  by_cases hn : n < 0
  · obtain ⟨k, rfl⟩ : ∃ k : Nat, n = -(k : Int) := ⟨n.natAbs, by omega⟩
    rw [itoaS_neg (by omega), ByteArray.size_append]
    have := decS_size (k := k) (by omega)
    have h : (ByteArray.mk #[45]).size = 1 := rfl
    omega
  · obtain ⟨k, rfl⟩ : ∃ k : Nat, n = (k : Int) := ⟨n.toNat, by omega⟩
    rw [itoaS_pos]
    have := decS_size (k := k) (by omega)
    omega
theorem size_ok {a s : ByteArray} (ha : a.size ≤ 9) (hs : s.size ≤ 21) : ¬ 9223372036854775807 < (a ++ (ByteArray.mk #[32])).size + s.size := by
  rw [ByteArray.size_append]
  have : (ByteArray.mk #[32]).size = 1 := rfl
  omega
theorem up_grow (w : World) (q : Nat) (os : Array Obj) : Up w (Sort.grow (w.drewN q) os) := by
  refine ⟨rfl, rfl, rfl, by simp [Sort.grow, World.drewN], fun b hb => ?_⟩
  show (w.heap ++ os)[b]? = w.heap[b]?
  exact Array.getElem?_append_left hb
theorem c_format (n : Int) (w : World) (h0 : -9223372036854775808 ≤ n) (h1 : n ≤ 9223372036854775807) (htab : Lib.TabIs Tryd.prog w "internal/strconv.uint64pow10" .u64 Lib.pow10Tab) : Calls Tryd.prog 10 #[.int .i64 n, .int .i64 10] w (RetV (.string (itoaS n)) w) :=
  (Tryd.strconv_FormatInt_10 n h0 h1 w htab).mono fun e w' ⟨he, q, os, hw⟩ => ⟨he, by rw [hw]; exact up_grow w q os⟩
set_option maxRecDepth 100000 in
set_option maxHeartbeats 4000000 in
theorem c_specFaultText (k n : Int) (w : World) (h0 : -9223372036854775808 ≤ n) (h1 : n ≤ 9223372036854775807) : Calls Tryd.prog 4 #[.agg #[.int .i64 k, .int .i64 n]] w (RetV (.string (faultS k n)) w) := by
  cases hin : inB k 1 7
  · have H : Hid (faultS k n = ⟨#[]⟩) := Lib.hid (by simp [faultS, hin])
    go_enter Tryd.func4, Tryd.ntmps4
    go_wp2_with (go_at_call 7; refine (in_any _ _ _ _).mono ?_; rintro e w' ⟨rfl, rfl⟩)
    go_ret
    exact ⟨by rw [H.out]; first | done | rfl, by repeat (first | exact Up.refl w | refine Up.alloc ?_ _)⟩
  · have hk := inB_t.1 hin
    have hs := itoaS_size h0 h1
    have hk7 : k = 1 ∨ k = 2 ∨ k = 3 ∨ k = 4 ∨ k = 5 ∨ k = 6 ∨ k = 7 := by omega
    clear hin hk
    rcases hk7 with rfl | rfl | rfl | rfl | rfl | rfl | rfl
    · have hin : inB 1 1 7 = true := by decide
      have H : Hid (faultS 1 n = ⟨#[114, 111, 111, 116]⟩ ++ ⟨#[32]⟩ ++ itoaS n) := Lib.hid (by simp [faultS, hin, ftWord])
      have hw1 : IntKind.i64.wrap ((1 : Int) - 1) = 0 := by decide
      have hw2 : IntKind.i64.wrap (0 : Int) = 0 := by decide
      have kA : Bk ((w.alloc (.cells #[.int .i64 1, .int .i64 n] 25)).alloc (.cells #[.string ⟨#[]⟩, .string ⟨#[114, 111, 111, 116]⟩, .string ⟨#[107, 105, 100]⟩, .string ⟨#[116, 119, 105, 99, 101]⟩, .string ⟨#[111, 114, 100, 101, 114]⟩, .string ⟨#[100, 101, 101, 112]⟩, .string ⟨#[102, 101, 119]⟩, .string ⟨#[108, 111, 115, 116]⟩] 9)) w.heap.size 25 #[.int .i64 1, .int .i64 n] := (Bk.new _ _ _).alloc _
      have kS : Bk ((w.alloc (.cells #[.int .i64 1, .int .i64 n] 25)).alloc (.cells #[.string ⟨#[]⟩, .string ⟨#[114, 111, 111, 116]⟩, .string ⟨#[107, 105, 100]⟩, .string ⟨#[116, 119, 105, 99, 101]⟩, .string ⟨#[111, 114, 100, 101, 114]⟩, .string ⟨#[100, 101, 101, 112]⟩, .string ⟨#[102, 101, 119]⟩, .string ⟨#[108, 111, 115, 116]⟩] 9)) (w.heap.size + 1) 9 #[.string ⟨#[]⟩, .string ⟨#[114, 111, 111, 116]⟩, .string ⟨#[107, 105, 100]⟩, .string ⟨#[116, 119, 105, 99, 101]⟩, .string ⟨#[111, 114, 100, 101, 114]⟩, .string ⟨#[100, 101, 101, 112]⟩, .string ⟨#[102, 101, 119]⟩, .string ⟨#[108, 111, 115, 116]⟩] := by simpa using Bk.new (w.alloc (.cells #[.int .i64 1, .int .i64 n] 25)) 9 #[.string ⟨#[]⟩, .string ⟨#[114, 111, 111, 116]⟩, .string ⟨#[107, 105, 100]⟩, .string ⟨#[116, 119, 105, 99, 101]⟩, .string ⟨#[111, 114, 100, 101, 114]⟩, .string ⟨#[100, 101, 101, 112]⟩, .string ⟨#[102, 101, 119]⟩, .string ⟨#[108, 111, 115, 116]⟩]
      have uu : Up w ((w.alloc (.cells #[.int .i64 1, .int .i64 n] 25)).alloc (.cells #[.string ⟨#[]⟩, .string ⟨#[114, 111, 111, 116]⟩, .string ⟨#[107, 105, 100]⟩, .string ⟨#[116, 119, 105, 99, 101]⟩, .string ⟨#[111, 114, 100, 101, 114]⟩, .string ⟨#[100, 101, 101, 112]⟩, .string ⟨#[102, 101, 119]⟩, .string ⟨#[108, 111, 115, 116]⟩] 9)) := ((Up.refl w).alloc _).alloc _
      have e0 : ((w.alloc (.cells #[.int .i64 1, .int .i64 n] 25)).alloc (.cells #[.string ⟨#[]⟩, .string ⟨#[114, 111, 111, 116]⟩, .string ⟨#[107, 105, 100]⟩, .string ⟨#[116, 119, 105, 99, 101]⟩, .string ⟨#[111, 114, 100, 101, 114]⟩, .string ⟨#[100, 101, 101, 112]⟩, .string ⟨#[102, 101, 119]⟩, .string ⟨#[108, 111, 115, 116]⟩] 9)).drew.cell? ⟨w.heap.size, 0, none⟩ = some (.int .i64 1) := kA.cell 0
      have e1 : ((w.alloc (.cells #[.int .i64 1, .int .i64 n] 25)).alloc (.cells #[.string ⟨#[]⟩, .string ⟨#[114, 111, 111, 116]⟩, .string ⟨#[107, 105, 100]⟩, .string ⟨#[116, 119, 105, 99, 101]⟩, .string ⟨#[111, 114, 100, 101, 114]⟩, .string ⟨#[100, 101, 101, 112]⟩, .string ⟨#[102, 101, 119]⟩, .string ⟨#[108, 111, 115, 116]⟩] 9)).drew.cell? ⟨w.heap.size, 1, none⟩ = some (.int .i64 n) := kA.cell 1
      have e2 : ((w.alloc (.cells #[.int .i64 1, .int .i64 n] 25)).alloc (.cells #[.string ⟨#[]⟩, .string ⟨#[114, 111, 111, 116]⟩, .string ⟨#[107, 105, 100]⟩, .string ⟨#[116, 119, 105, 99, 101]⟩, .string ⟨#[111, 114, 100, 101, 114]⟩, .string ⟨#[100, 101, 101, 112]⟩, .string ⟨#[102, 101, 119]⟩, .string ⟨#[108, 111, 115, 116]⟩] 9)).drew.cell? ⟨w.heap.size + 1, 1, none⟩ = some (.string ⟨#[114, 111, 111, 116]⟩) := kS.cell 1
      have hz1 : ¬ 9223372036854775807 < (ByteArray.mk #[114, 111, 111, 116]).size + (ByteArray.mk #[32]).size := by decide
      have hz2 := size_ok (a := ⟨#[114, 111, 111, 116]⟩) (by decide) hs
      have hz3 : ¬ 9223372036854775807 < 5 + (itoaS n).size := by omega
      have hz4 : ¬ 9223372036854775807 < (ByteArray.mk #[114, 111, 111, 116, 32]).size + (itoaS n).size := by have : (ByteArray.mk #[114, 111, 111, 116, 32]).size = 5 := rfl; omega
      have hz5 : 5 + (itoaS n).size ≤ 9223372036854775807 := by omega
      have hz6 : ¬ 9223372036854775807 < 4 + 1 + (itoaS n).size := by omega
      go_enter Tryd.func4, Tryd.ntmps4
      go_wp2_with (go_at_call 7; refine (in_any _ _ _ _).mono ?_; rintro e w' ⟨rfl, rfl⟩)
      go_region_held3 (fun W => W.cell? ⟨w.heap.size, 0, none⟩ = some (.int .i64 1) ∧ W.cell? ⟨w.heap.size, 1, none⟩ = some (.int .i64 n) ∧ W.cell? ⟨w.heap.size + 1, 1, none⟩ = some (.string ⟨#[114, 111, 111, 116]⟩)) (first | with_reducible exact ⟨e0, e1, e2⟩ | with_reducible exact ⟨f0, f1, f2⟩) (first | (go_at_call 8; (refine (c_l21Dec n _ h0 h1).mono ?_); rintro e w1 ⟨rfl, u⟩; have f0 := (u.cell (cell_lt e0)).trans e0; have f1 := (u.cell (cell_lt e1)).trans e1; have f2 := (u.cell (cell_lt e2)).trans e2))
      all_goals
        go_wp2_with fail
        go_ret
        exact ⟨by rw [H.out]; first | done | rfl, uu.drew.trans u⟩
    · have hin : inB 2 1 7 = true := by decide
      have H : Hid (faultS 2 n = ⟨#[107, 105, 100]⟩ ++ ⟨#[32]⟩ ++ itoaS n) := Lib.hid (by simp [faultS, hin, ftWord])
      have hw1 : IntKind.i64.wrap ((2 : Int) - 1) = 1 := by decide
      have hw2 : IntKind.i64.wrap (1 : Int) = 1 := by decide
      have kA : Bk ((w.alloc (.cells #[.int .i64 2, .int .i64 n] 25)).alloc (.cells #[.string ⟨#[]⟩, .string ⟨#[114, 111, 111, 116]⟩, .string ⟨#[107, 105, 100]⟩, .string ⟨#[116, 119, 105, 99, 101]⟩, .string ⟨#[111, 114, 100, 101, 114]⟩, .string ⟨#[100, 101, 101, 112]⟩, .string ⟨#[102, 101, 119]⟩, .string ⟨#[108, 111, 115, 116]⟩] 9)) w.heap.size 25 #[.int .i64 2, .int .i64 n] := (Bk.new _ _ _).alloc _
      have kS : Bk ((w.alloc (.cells #[.int .i64 2, .int .i64 n] 25)).alloc (.cells #[.string ⟨#[]⟩, .string ⟨#[114, 111, 111, 116]⟩, .string ⟨#[107, 105, 100]⟩, .string ⟨#[116, 119, 105, 99, 101]⟩, .string ⟨#[111, 114, 100, 101, 114]⟩, .string ⟨#[100, 101, 101, 112]⟩, .string ⟨#[102, 101, 119]⟩, .string ⟨#[108, 111, 115, 116]⟩] 9)) (w.heap.size + 1) 9 #[.string ⟨#[]⟩, .string ⟨#[114, 111, 111, 116]⟩, .string ⟨#[107, 105, 100]⟩, .string ⟨#[116, 119, 105, 99, 101]⟩, .string ⟨#[111, 114, 100, 101, 114]⟩, .string ⟨#[100, 101, 101, 112]⟩, .string ⟨#[102, 101, 119]⟩, .string ⟨#[108, 111, 115, 116]⟩] := by simpa using Bk.new (w.alloc (.cells #[.int .i64 2, .int .i64 n] 25)) 9 #[.string ⟨#[]⟩, .string ⟨#[114, 111, 111, 116]⟩, .string ⟨#[107, 105, 100]⟩, .string ⟨#[116, 119, 105, 99, 101]⟩, .string ⟨#[111, 114, 100, 101, 114]⟩, .string ⟨#[100, 101, 101, 112]⟩, .string ⟨#[102, 101, 119]⟩, .string ⟨#[108, 111, 115, 116]⟩]
      have uu : Up w ((w.alloc (.cells #[.int .i64 2, .int .i64 n] 25)).alloc (.cells #[.string ⟨#[]⟩, .string ⟨#[114, 111, 111, 116]⟩, .string ⟨#[107, 105, 100]⟩, .string ⟨#[116, 119, 105, 99, 101]⟩, .string ⟨#[111, 114, 100, 101, 114]⟩, .string ⟨#[100, 101, 101, 112]⟩, .string ⟨#[102, 101, 119]⟩, .string ⟨#[108, 111, 115, 116]⟩] 9)) := ((Up.refl w).alloc _).alloc _
      have e0 : ((w.alloc (.cells #[.int .i64 2, .int .i64 n] 25)).alloc (.cells #[.string ⟨#[]⟩, .string ⟨#[114, 111, 111, 116]⟩, .string ⟨#[107, 105, 100]⟩, .string ⟨#[116, 119, 105, 99, 101]⟩, .string ⟨#[111, 114, 100, 101, 114]⟩, .string ⟨#[100, 101, 101, 112]⟩, .string ⟨#[102, 101, 119]⟩, .string ⟨#[108, 111, 115, 116]⟩] 9)).drew.cell? ⟨w.heap.size, 0, none⟩ = some (.int .i64 2) := kA.cell 0
      have e1 : ((w.alloc (.cells #[.int .i64 2, .int .i64 n] 25)).alloc (.cells #[.string ⟨#[]⟩, .string ⟨#[114, 111, 111, 116]⟩, .string ⟨#[107, 105, 100]⟩, .string ⟨#[116, 119, 105, 99, 101]⟩, .string ⟨#[111, 114, 100, 101, 114]⟩, .string ⟨#[100, 101, 101, 112]⟩, .string ⟨#[102, 101, 119]⟩, .string ⟨#[108, 111, 115, 116]⟩] 9)).drew.cell? ⟨w.heap.size, 1, none⟩ = some (.int .i64 n) := kA.cell 1
      have e2 : ((w.alloc (.cells #[.int .i64 2, .int .i64 n] 25)).alloc (.cells #[.string ⟨#[]⟩, .string ⟨#[114, 111, 111, 116]⟩, .string ⟨#[107, 105, 100]⟩, .string ⟨#[116, 119, 105, 99, 101]⟩, .string ⟨#[111, 114, 100, 101, 114]⟩, .string ⟨#[100, 101, 101, 112]⟩, .string ⟨#[102, 101, 119]⟩, .string ⟨#[108, 111, 115, 116]⟩] 9)).drew.cell? ⟨w.heap.size + 1, 2, none⟩ = some (.string ⟨#[107, 105, 100]⟩) := kS.cell 2
      have hz1 : ¬ 9223372036854775807 < (ByteArray.mk #[107, 105, 100]).size + (ByteArray.mk #[32]).size := by decide
      have hz2 := size_ok (a := ⟨#[107, 105, 100]⟩) (by decide) hs
      have hz3 : ¬ 9223372036854775807 < 4 + (itoaS n).size := by omega
      have hz4 : ¬ 9223372036854775807 < (ByteArray.mk #[107, 105, 100, 32]).size + (itoaS n).size := by have : (ByteArray.mk #[107, 105, 100, 32]).size = 4 := rfl; omega
      have hz5 : 4 + (itoaS n).size ≤ 9223372036854775807 := by omega
      have hz6 : ¬ 9223372036854775807 < 3 + 1 + (itoaS n).size := by omega
      go_enter Tryd.func4, Tryd.ntmps4
      go_wp2_with (go_at_call 7; refine (in_any _ _ _ _).mono ?_; rintro e w' ⟨rfl, rfl⟩)
      go_region_held3 (fun W => W.cell? ⟨w.heap.size, 0, none⟩ = some (.int .i64 2) ∧ W.cell? ⟨w.heap.size, 1, none⟩ = some (.int .i64 n) ∧ W.cell? ⟨w.heap.size + 1, 2, none⟩ = some (.string ⟨#[107, 105, 100]⟩)) (first | with_reducible exact ⟨e0, e1, e2⟩ | with_reducible exact ⟨f0, f1, f2⟩) (first | (go_at_call 8; (refine (c_l21Dec n _ h0 h1).mono ?_); rintro e w1 ⟨rfl, u⟩; have f0 := (u.cell (cell_lt e0)).trans e0; have f1 := (u.cell (cell_lt e1)).trans e1; have f2 := (u.cell (cell_lt e2)).trans e2))
      all_goals
        go_wp2_with fail
        go_ret
        exact ⟨by rw [H.out]; first | done | rfl, uu.drew.trans u⟩
    · have hin : inB 3 1 7 = true := by decide
      have H : Hid (faultS 3 n = ⟨#[116, 119, 105, 99, 101]⟩ ++ ⟨#[32]⟩ ++ itoaS n) := Lib.hid (by simp [faultS, hin, ftWord])
      have hw1 : IntKind.i64.wrap ((3 : Int) - 1) = 2 := by decide
      have hw2 : IntKind.i64.wrap (2 : Int) = 2 := by decide
      have kA : Bk ((w.alloc (.cells #[.int .i64 3, .int .i64 n] 25)).alloc (.cells #[.string ⟨#[]⟩, .string ⟨#[114, 111, 111, 116]⟩, .string ⟨#[107, 105, 100]⟩, .string ⟨#[116, 119, 105, 99, 101]⟩, .string ⟨#[111, 114, 100, 101, 114]⟩, .string ⟨#[100, 101, 101, 112]⟩, .string ⟨#[102, 101, 119]⟩, .string ⟨#[108, 111, 115, 116]⟩] 9)) w.heap.size 25 #[.int .i64 3, .int .i64 n] := (Bk.new _ _ _).alloc _
      have kS : Bk ((w.alloc (.cells #[.int .i64 3, .int .i64 n] 25)).alloc (.cells #[.string ⟨#[]⟩, .string ⟨#[114, 111, 111, 116]⟩, .string ⟨#[107, 105, 100]⟩, .string ⟨#[116, 119, 105, 99, 101]⟩, .string ⟨#[111, 114, 100, 101, 114]⟩, .string ⟨#[100, 101, 101, 112]⟩, .string ⟨#[102, 101, 119]⟩, .string ⟨#[108, 111, 115, 116]⟩] 9)) (w.heap.size + 1) 9 #[.string ⟨#[]⟩, .string ⟨#[114, 111, 111, 116]⟩, .string ⟨#[107, 105, 100]⟩, .string ⟨#[116, 119, 105, 99, 101]⟩, .string ⟨#[111, 114, 100, 101, 114]⟩, .string ⟨#[100, 101, 101, 112]⟩, .string ⟨#[102, 101, 119]⟩, .string ⟨#[108, 111, 115, 116]⟩] := by simpa using Bk.new (w.alloc (.cells #[.int .i64 3, .int .i64 n] 25)) 9 #[.string ⟨#[]⟩, .string ⟨#[114, 111, 111, 116]⟩, .string ⟨#[107, 105, 100]⟩, .string ⟨#[116, 119, 105, 99, 101]⟩, .string ⟨#[111, 114, 100, 101, 114]⟩, .string ⟨#[100, 101, 101, 112]⟩, .string ⟨#[102, 101, 119]⟩, .string ⟨#[108, 111, 115, 116]⟩]
      have uu : Up w ((w.alloc (.cells #[.int .i64 3, .int .i64 n] 25)).alloc (.cells #[.string ⟨#[]⟩, .string ⟨#[114, 111, 111, 116]⟩, .string ⟨#[107, 105, 100]⟩, .string ⟨#[116, 119, 105, 99, 101]⟩, .string ⟨#[111, 114, 100, 101, 114]⟩, .string ⟨#[100, 101, 101, 112]⟩, .string ⟨#[102, 101, 119]⟩, .string ⟨#[108, 111, 115, 116]⟩] 9)) := ((Up.refl w).alloc _).alloc _
      have e0 : ((w.alloc (.cells #[.int .i64 3, .int .i64 n] 25)).alloc (.cells #[.string ⟨#[]⟩, .string ⟨#[114, 111, 111, 116]⟩, .string ⟨#[107, 105, 100]⟩, .string ⟨#[116, 119, 105, 99, 101]⟩, .string ⟨#[111, 114, 100, 101, 114]⟩, .string ⟨#[100, 101, 101, 112]⟩, .string ⟨#[102, 101, 119]⟩, .string ⟨#[108, 111, 115, 116]⟩] 9)).drew.cell? ⟨w.heap.size, 0, none⟩ = some (.int .i64 3) := kA.cell 0
      have e1 : ((w.alloc (.cells #[.int .i64 3, .int .i64 n] 25)).alloc (.cells #[.string ⟨#[]⟩, .string ⟨#[114, 111, 111, 116]⟩, .string ⟨#[107, 105, 100]⟩, .string ⟨#[116, 119, 105, 99, 101]⟩, .string ⟨#[111, 114, 100, 101, 114]⟩, .string ⟨#[100, 101, 101, 112]⟩, .string ⟨#[102, 101, 119]⟩, .string ⟨#[108, 111, 115, 116]⟩] 9)).drew.cell? ⟨w.heap.size, 1, none⟩ = some (.int .i64 n) := kA.cell 1
      have e2 : ((w.alloc (.cells #[.int .i64 3, .int .i64 n] 25)).alloc (.cells #[.string ⟨#[]⟩, .string ⟨#[114, 111, 111, 116]⟩, .string ⟨#[107, 105, 100]⟩, .string ⟨#[116, 119, 105, 99, 101]⟩, .string ⟨#[111, 114, 100, 101, 114]⟩, .string ⟨#[100, 101, 101, 112]⟩, .string ⟨#[102, 101, 119]⟩, .string ⟨#[108, 111, 115, 116]⟩] 9)).drew.cell? ⟨w.heap.size + 1, 3, none⟩ = some (.string ⟨#[116, 119, 105, 99, 101]⟩) := kS.cell 3
      have hz1 : ¬ 9223372036854775807 < (ByteArray.mk #[116, 119, 105, 99, 101]).size + (ByteArray.mk #[32]).size := by decide
      have hz2 := size_ok (a := ⟨#[116, 119, 105, 99, 101]⟩) (by decide) hs
      have hz3 : ¬ 9223372036854775807 < 6 + (itoaS n).size := by omega
      have hz4 : ¬ 9223372036854775807 < (ByteArray.mk #[116, 119, 105, 99, 101, 32]).size + (itoaS n).size := by have : (ByteArray.mk #[116, 119, 105, 99, 101, 32]).size = 6 := rfl; omega
      have hz5 : 6 + (itoaS n).size ≤ 9223372036854775807 := by omega
      have hz6 : ¬ 9223372036854775807 < 5 + 1 + (itoaS n).size := by omega
      go_enter Tryd.func4, Tryd.ntmps4
      go_wp2_with (go_at_call 7; refine (in_any _ _ _ _).mono ?_; rintro e w' ⟨rfl, rfl⟩)
      go_region_held3 (fun W => W.cell? ⟨w.heap.size, 0, none⟩ = some (.int .i64 3) ∧ W.cell? ⟨w.heap.size, 1, none⟩ = some (.int .i64 n) ∧ W.cell? ⟨w.heap.size + 1, 3, none⟩ = some (.string ⟨#[116, 119, 105, 99, 101]⟩)) (first | with_reducible exact ⟨e0, e1, e2⟩ | with_reducible exact ⟨f0, f1, f2⟩) (first | (go_at_call 8; (refine (c_l21Dec n _ h0 h1).mono ?_); rintro e w1 ⟨rfl, u⟩; have f0 := (u.cell (cell_lt e0)).trans e0; have f1 := (u.cell (cell_lt e1)).trans e1; have f2 := (u.cell (cell_lt e2)).trans e2))
      all_goals
        go_wp2_with fail
        go_ret
        exact ⟨by rw [H.out]; first | done | rfl, uu.drew.trans u⟩
    · have hin : inB 4 1 7 = true := by decide
      have H : Hid (faultS 4 n = ⟨#[111, 114, 100, 101, 114]⟩ ++ ⟨#[32]⟩ ++ itoaS n) := Lib.hid (by simp [faultS, hin, ftWord])
      have hw1 : IntKind.i64.wrap ((4 : Int) - 1) = 3 := by decide
      have hw2 : IntKind.i64.wrap (3 : Int) = 3 := by decide
      have kA : Bk ((w.alloc (.cells #[.int .i64 4, .int .i64 n] 25)).alloc (.cells #[.string ⟨#[]⟩, .string ⟨#[114, 111, 111, 116]⟩, .string ⟨#[107, 105, 100]⟩, .string ⟨#[116, 119, 105, 99, 101]⟩, .string ⟨#[111, 114, 100, 101, 114]⟩, .string ⟨#[100, 101, 101, 112]⟩, .string ⟨#[102, 101, 119]⟩, .string ⟨#[108, 111, 115, 116]⟩] 9)) w.heap.size 25 #[.int .i64 4, .int .i64 n] := (Bk.new _ _ _).alloc _
      have kS : Bk ((w.alloc (.cells #[.int .i64 4, .int .i64 n] 25)).alloc (.cells #[.string ⟨#[]⟩, .string ⟨#[114, 111, 111, 116]⟩, .string ⟨#[107, 105, 100]⟩, .string ⟨#[116, 119, 105, 99, 101]⟩, .string ⟨#[111, 114, 100, 101, 114]⟩, .string ⟨#[100, 101, 101, 112]⟩, .string ⟨#[102, 101, 119]⟩, .string ⟨#[108, 111, 115, 116]⟩] 9)) (w.heap.size + 1) 9 #[.string ⟨#[]⟩, .string ⟨#[114, 111, 111, 116]⟩, .string ⟨#[107, 105, 100]⟩, .string ⟨#[116, 119, 105, 99, 101]⟩, .string ⟨#[111, 114, 100, 101, 114]⟩, .string ⟨#[100, 101, 101, 112]⟩, .string ⟨#[102, 101, 119]⟩, .string ⟨#[108, 111, 115, 116]⟩] := by simpa using Bk.new (w.alloc (.cells #[.int .i64 4, .int .i64 n] 25)) 9 #[.string ⟨#[]⟩, .string ⟨#[114, 111, 111, 116]⟩, .string ⟨#[107, 105, 100]⟩, .string ⟨#[116, 119, 105, 99, 101]⟩, .string ⟨#[111, 114, 100, 101, 114]⟩, .string ⟨#[100, 101, 101, 112]⟩, .string ⟨#[102, 101, 119]⟩, .string ⟨#[108, 111, 115, 116]⟩]
      have uu : Up w ((w.alloc (.cells #[.int .i64 4, .int .i64 n] 25)).alloc (.cells #[.string ⟨#[]⟩, .string ⟨#[114, 111, 111, 116]⟩, .string ⟨#[107, 105, 100]⟩, .string ⟨#[116, 119, 105, 99, 101]⟩, .string ⟨#[111, 114, 100, 101, 114]⟩, .string ⟨#[100, 101, 101, 112]⟩, .string ⟨#[102, 101, 119]⟩, .string ⟨#[108, 111, 115, 116]⟩] 9)) := ((Up.refl w).alloc _).alloc _
      have e0 : ((w.alloc (.cells #[.int .i64 4, .int .i64 n] 25)).alloc (.cells #[.string ⟨#[]⟩, .string ⟨#[114, 111, 111, 116]⟩, .string ⟨#[107, 105, 100]⟩, .string ⟨#[116, 119, 105, 99, 101]⟩, .string ⟨#[111, 114, 100, 101, 114]⟩, .string ⟨#[100, 101, 101, 112]⟩, .string ⟨#[102, 101, 119]⟩, .string ⟨#[108, 111, 115, 116]⟩] 9)).drew.cell? ⟨w.heap.size, 0, none⟩ = some (.int .i64 4) := kA.cell 0
      have e1 : ((w.alloc (.cells #[.int .i64 4, .int .i64 n] 25)).alloc (.cells #[.string ⟨#[]⟩, .string ⟨#[114, 111, 111, 116]⟩, .string ⟨#[107, 105, 100]⟩, .string ⟨#[116, 119, 105, 99, 101]⟩, .string ⟨#[111, 114, 100, 101, 114]⟩, .string ⟨#[100, 101, 101, 112]⟩, .string ⟨#[102, 101, 119]⟩, .string ⟨#[108, 111, 115, 116]⟩] 9)).drew.cell? ⟨w.heap.size, 1, none⟩ = some (.int .i64 n) := kA.cell 1
      have e2 : ((w.alloc (.cells #[.int .i64 4, .int .i64 n] 25)).alloc (.cells #[.string ⟨#[]⟩, .string ⟨#[114, 111, 111, 116]⟩, .string ⟨#[107, 105, 100]⟩, .string ⟨#[116, 119, 105, 99, 101]⟩, .string ⟨#[111, 114, 100, 101, 114]⟩, .string ⟨#[100, 101, 101, 112]⟩, .string ⟨#[102, 101, 119]⟩, .string ⟨#[108, 111, 115, 116]⟩] 9)).drew.cell? ⟨w.heap.size + 1, 4, none⟩ = some (.string ⟨#[111, 114, 100, 101, 114]⟩) := kS.cell 4
      have hz1 : ¬ 9223372036854775807 < (ByteArray.mk #[111, 114, 100, 101, 114]).size + (ByteArray.mk #[32]).size := by decide
      have hz2 := size_ok (a := ⟨#[111, 114, 100, 101, 114]⟩) (by decide) hs
      have hz3 : ¬ 9223372036854775807 < 6 + (itoaS n).size := by omega
      have hz4 : ¬ 9223372036854775807 < (ByteArray.mk #[111, 114, 100, 101, 114, 32]).size + (itoaS n).size := by have : (ByteArray.mk #[111, 114, 100, 101, 114, 32]).size = 6 := rfl; omega
      have hz5 : 6 + (itoaS n).size ≤ 9223372036854775807 := by omega
      have hz6 : ¬ 9223372036854775807 < 5 + 1 + (itoaS n).size := by omega
      go_enter Tryd.func4, Tryd.ntmps4
      go_wp2_with (go_at_call 7; refine (in_any _ _ _ _).mono ?_; rintro e w' ⟨rfl, rfl⟩)
      go_region_held3 (fun W => W.cell? ⟨w.heap.size, 0, none⟩ = some (.int .i64 4) ∧ W.cell? ⟨w.heap.size, 1, none⟩ = some (.int .i64 n) ∧ W.cell? ⟨w.heap.size + 1, 4, none⟩ = some (.string ⟨#[111, 114, 100, 101, 114]⟩)) (first | with_reducible exact ⟨e0, e1, e2⟩ | with_reducible exact ⟨f0, f1, f2⟩) (first | (go_at_call 8; (refine (c_l21Dec n _ h0 h1).mono ?_); rintro e w1 ⟨rfl, u⟩; have f0 := (u.cell (cell_lt e0)).trans e0; have f1 := (u.cell (cell_lt e1)).trans e1; have f2 := (u.cell (cell_lt e2)).trans e2))
      all_goals
        go_wp2_with fail
        go_ret
        exact ⟨by rw [H.out]; first | done | rfl, uu.drew.trans u⟩
    · have hin : inB 5 1 7 = true := by decide
      have H : Hid (faultS 5 n = ⟨#[100, 101, 101, 112]⟩ ++ ⟨#[32]⟩ ++ itoaS n) := Lib.hid (by simp [faultS, hin, ftWord])
      have hw1 : IntKind.i64.wrap ((5 : Int) - 1) = 4 := by decide
      have hw2 : IntKind.i64.wrap (4 : Int) = 4 := by decide
      have kA : Bk ((w.alloc (.cells #[.int .i64 5, .int .i64 n] 25)).alloc (.cells #[.string ⟨#[]⟩, .string ⟨#[114, 111, 111, 116]⟩, .string ⟨#[107, 105, 100]⟩, .string ⟨#[116, 119, 105, 99, 101]⟩, .string ⟨#[111, 114, 100, 101, 114]⟩, .string ⟨#[100, 101, 101, 112]⟩, .string ⟨#[102, 101, 119]⟩, .string ⟨#[108, 111, 115, 116]⟩] 9)) w.heap.size 25 #[.int .i64 5, .int .i64 n] := (Bk.new _ _ _).alloc _
      have kS : Bk ((w.alloc (.cells #[.int .i64 5, .int .i64 n] 25)).alloc (.cells #[.string ⟨#[]⟩, .string ⟨#[114, 111, 111, 116]⟩, .string ⟨#[107, 105, 100]⟩, .string ⟨#[116, 119, 105, 99, 101]⟩, .string ⟨#[111, 114, 100, 101, 114]⟩, .string ⟨#[100, 101, 101, 112]⟩, .string ⟨#[102, 101, 119]⟩, .string ⟨#[108, 111, 115, 116]⟩] 9)) (w.heap.size + 1) 9 #[.string ⟨#[]⟩, .string ⟨#[114, 111, 111, 116]⟩, .string ⟨#[107, 105, 100]⟩, .string ⟨#[116, 119, 105, 99, 101]⟩, .string ⟨#[111, 114, 100, 101, 114]⟩, .string ⟨#[100, 101, 101, 112]⟩, .string ⟨#[102, 101, 119]⟩, .string ⟨#[108, 111, 115, 116]⟩] := by simpa using Bk.new (w.alloc (.cells #[.int .i64 5, .int .i64 n] 25)) 9 #[.string ⟨#[]⟩, .string ⟨#[114, 111, 111, 116]⟩, .string ⟨#[107, 105, 100]⟩, .string ⟨#[116, 119, 105, 99, 101]⟩, .string ⟨#[111, 114, 100, 101, 114]⟩, .string ⟨#[100, 101, 101, 112]⟩, .string ⟨#[102, 101, 119]⟩, .string ⟨#[108, 111, 115, 116]⟩]
      have uu : Up w ((w.alloc (.cells #[.int .i64 5, .int .i64 n] 25)).alloc (.cells #[.string ⟨#[]⟩, .string ⟨#[114, 111, 111, 116]⟩, .string ⟨#[107, 105, 100]⟩, .string ⟨#[116, 119, 105, 99, 101]⟩, .string ⟨#[111, 114, 100, 101, 114]⟩, .string ⟨#[100, 101, 101, 112]⟩, .string ⟨#[102, 101, 119]⟩, .string ⟨#[108, 111, 115, 116]⟩] 9)) := ((Up.refl w).alloc _).alloc _
      have e0 : ((w.alloc (.cells #[.int .i64 5, .int .i64 n] 25)).alloc (.cells #[.string ⟨#[]⟩, .string ⟨#[114, 111, 111, 116]⟩, .string ⟨#[107, 105, 100]⟩, .string ⟨#[116, 119, 105, 99, 101]⟩, .string ⟨#[111, 114, 100, 101, 114]⟩, .string ⟨#[100, 101, 101, 112]⟩, .string ⟨#[102, 101, 119]⟩, .string ⟨#[108, 111, 115, 116]⟩] 9)).drew.cell? ⟨w.heap.size, 0, none⟩ = some (.int .i64 5) := kA.cell 0
      have e1 : ((w.alloc (.cells #[.int .i64 5, .int .i64 n] 25)).alloc (.cells #[.string ⟨#[]⟩, .string ⟨#[114, 111, 111, 116]⟩, .string ⟨#[107, 105, 100]⟩, .string ⟨#[116, 119, 105, 99, 101]⟩, .string ⟨#[111, 114, 100, 101, 114]⟩, .string ⟨#[100, 101, 101, 112]⟩, .string ⟨#[102, 101, 119]⟩, .string ⟨#[108, 111, 115, 116]⟩] 9)).drew.cell? ⟨w.heap.size, 1, none⟩ = some (.int .i64 n) := kA.cell 1
      have e2 : ((w.alloc (.cells #[.int .i64 5, .int .i64 n] 25)).alloc (.cells #[.string ⟨#[]⟩, .string ⟨#[114, 111, 111, 116]⟩, .string ⟨#[107, 105, 100]⟩, .string ⟨#[116, 119, 105, 99, 101]⟩, .string ⟨#[111, 114, 100, 101, 114]⟩, .string ⟨#[100, 101, 101, 112]⟩, .string ⟨#[102, 101, 119]⟩, .string ⟨#[108, 111, 115, 116]⟩] 9)).drew.cell? ⟨w.heap.size + 1, 5, none⟩ = some (.string ⟨#[100, 101, 101, 112]⟩) := kS.cell 5
      have hz1 : ¬ 9223372036854775807 < (ByteArray.mk #[100, 101, 101, 112]).size + (ByteArray.mk #[32]).size := by decide
      have hz2 := size_ok (a := ⟨#[100, 101, 101, 112]⟩) (by decide) hs
      have hz3 : ¬ 9223372036854775807 < 5 + (itoaS n).size := by omega
      have hz4 : ¬ 9223372036854775807 < (ByteArray.mk #[100, 101, 101, 112, 32]).size + (itoaS n).size := by have : (ByteArray.mk #[100, 101, 101, 112, 32]).size = 5 := rfl; omega
      have hz5 : 5 + (itoaS n).size ≤ 9223372036854775807 := by omega
      have hz6 : ¬ 9223372036854775807 < 4 + 1 + (itoaS n).size := by omega
      go_enter Tryd.func4, Tryd.ntmps4
      go_wp2_with (go_at_call 7; refine (in_any _ _ _ _).mono ?_; rintro e w' ⟨rfl, rfl⟩)
      go_region_held3 (fun W => W.cell? ⟨w.heap.size, 0, none⟩ = some (.int .i64 5) ∧ W.cell? ⟨w.heap.size, 1, none⟩ = some (.int .i64 n) ∧ W.cell? ⟨w.heap.size + 1, 5, none⟩ = some (.string ⟨#[100, 101, 101, 112]⟩)) (first | with_reducible exact ⟨e0, e1, e2⟩ | with_reducible exact ⟨f0, f1, f2⟩) (first | (go_at_call 8; (refine (c_l21Dec n _ h0 h1).mono ?_); rintro e w1 ⟨rfl, u⟩; have f0 := (u.cell (cell_lt e0)).trans e0; have f1 := (u.cell (cell_lt e1)).trans e1; have f2 := (u.cell (cell_lt e2)).trans e2))
      all_goals
        go_wp2_with fail
        go_ret
        exact ⟨by rw [H.out]; first | done | rfl, uu.drew.trans u⟩
    · have hin : inB 6 1 7 = true := by decide
      have H : Hid (faultS 6 n = ⟨#[102, 101, 119]⟩ ++ ⟨#[32]⟩ ++ itoaS n) := Lib.hid (by simp [faultS, hin, ftWord])
      have hw1 : IntKind.i64.wrap ((6 : Int) - 1) = 5 := by decide
      have hw2 : IntKind.i64.wrap (5 : Int) = 5 := by decide
      have kA : Bk ((w.alloc (.cells #[.int .i64 6, .int .i64 n] 25)).alloc (.cells #[.string ⟨#[]⟩, .string ⟨#[114, 111, 111, 116]⟩, .string ⟨#[107, 105, 100]⟩, .string ⟨#[116, 119, 105, 99, 101]⟩, .string ⟨#[111, 114, 100, 101, 114]⟩, .string ⟨#[100, 101, 101, 112]⟩, .string ⟨#[102, 101, 119]⟩, .string ⟨#[108, 111, 115, 116]⟩] 9)) w.heap.size 25 #[.int .i64 6, .int .i64 n] := (Bk.new _ _ _).alloc _
      have kS : Bk ((w.alloc (.cells #[.int .i64 6, .int .i64 n] 25)).alloc (.cells #[.string ⟨#[]⟩, .string ⟨#[114, 111, 111, 116]⟩, .string ⟨#[107, 105, 100]⟩, .string ⟨#[116, 119, 105, 99, 101]⟩, .string ⟨#[111, 114, 100, 101, 114]⟩, .string ⟨#[100, 101, 101, 112]⟩, .string ⟨#[102, 101, 119]⟩, .string ⟨#[108, 111, 115, 116]⟩] 9)) (w.heap.size + 1) 9 #[.string ⟨#[]⟩, .string ⟨#[114, 111, 111, 116]⟩, .string ⟨#[107, 105, 100]⟩, .string ⟨#[116, 119, 105, 99, 101]⟩, .string ⟨#[111, 114, 100, 101, 114]⟩, .string ⟨#[100, 101, 101, 112]⟩, .string ⟨#[102, 101, 119]⟩, .string ⟨#[108, 111, 115, 116]⟩] := by simpa using Bk.new (w.alloc (.cells #[.int .i64 6, .int .i64 n] 25)) 9 #[.string ⟨#[]⟩, .string ⟨#[114, 111, 111, 116]⟩, .string ⟨#[107, 105, 100]⟩, .string ⟨#[116, 119, 105, 99, 101]⟩, .string ⟨#[111, 114, 100, 101, 114]⟩, .string ⟨#[100, 101, 101, 112]⟩, .string ⟨#[102, 101, 119]⟩, .string ⟨#[108, 111, 115, 116]⟩]
      have uu : Up w ((w.alloc (.cells #[.int .i64 6, .int .i64 n] 25)).alloc (.cells #[.string ⟨#[]⟩, .string ⟨#[114, 111, 111, 116]⟩, .string ⟨#[107, 105, 100]⟩, .string ⟨#[116, 119, 105, 99, 101]⟩, .string ⟨#[111, 114, 100, 101, 114]⟩, .string ⟨#[100, 101, 101, 112]⟩, .string ⟨#[102, 101, 119]⟩, .string ⟨#[108, 111, 115, 116]⟩] 9)) := ((Up.refl w).alloc _).alloc _
      have e0 : ((w.alloc (.cells #[.int .i64 6, .int .i64 n] 25)).alloc (.cells #[.string ⟨#[]⟩, .string ⟨#[114, 111, 111, 116]⟩, .string ⟨#[107, 105, 100]⟩, .string ⟨#[116, 119, 105, 99, 101]⟩, .string ⟨#[111, 114, 100, 101, 114]⟩, .string ⟨#[100, 101, 101, 112]⟩, .string ⟨#[102, 101, 119]⟩, .string ⟨#[108, 111, 115, 116]⟩] 9)).drew.cell? ⟨w.heap.size, 0, none⟩ = some (.int .i64 6) := kA.cell 0
      have e1 : ((w.alloc (.cells #[.int .i64 6, .int .i64 n] 25)).alloc (.cells #[.string ⟨#[]⟩, .string ⟨#[114, 111, 111, 116]⟩, .string ⟨#[107, 105, 100]⟩, .string ⟨#[116, 119, 105, 99, 101]⟩, .string ⟨#[111, 114, 100, 101, 114]⟩, .string ⟨#[100, 101, 101, 112]⟩, .string ⟨#[102, 101, 119]⟩, .string ⟨#[108, 111, 115, 116]⟩] 9)).drew.cell? ⟨w.heap.size, 1, none⟩ = some (.int .i64 n) := kA.cell 1
      have e2 : ((w.alloc (.cells #[.int .i64 6, .int .i64 n] 25)).alloc (.cells #[.string ⟨#[]⟩, .string ⟨#[114, 111, 111, 116]⟩, .string ⟨#[107, 105, 100]⟩, .string ⟨#[116, 119, 105, 99, 101]⟩, .string ⟨#[111, 114, 100, 101, 114]⟩, .string ⟨#[100, 101, 101, 112]⟩, .string ⟨#[102, 101, 119]⟩, .string ⟨#[108, 111, 115, 116]⟩] 9)).drew.cell? ⟨w.heap.size + 1, 6, none⟩ = some (.string ⟨#[102, 101, 119]⟩) := kS.cell 6
      have hz1 : ¬ 9223372036854775807 < (ByteArray.mk #[102, 101, 119]).size + (ByteArray.mk #[32]).size := by decide
      have hz2 := size_ok (a := ⟨#[102, 101, 119]⟩) (by decide) hs
      have hz3 : ¬ 9223372036854775807 < 4 + (itoaS n).size := by omega
      have hz4 : ¬ 9223372036854775807 < (ByteArray.mk #[102, 101, 119, 32]).size + (itoaS n).size := by have : (ByteArray.mk #[102, 101, 119, 32]).size = 4 := rfl; omega
      have hz5 : 4 + (itoaS n).size ≤ 9223372036854775807 := by omega
      have hz6 : ¬ 9223372036854775807 < 3 + 1 + (itoaS n).size := by omega
      go_enter Tryd.func4, Tryd.ntmps4
      go_wp2_with (go_at_call 7; refine (in_any _ _ _ _).mono ?_; rintro e w' ⟨rfl, rfl⟩)
      go_region_held3 (fun W => W.cell? ⟨w.heap.size, 0, none⟩ = some (.int .i64 6) ∧ W.cell? ⟨w.heap.size, 1, none⟩ = some (.int .i64 n) ∧ W.cell? ⟨w.heap.size + 1, 6, none⟩ = some (.string ⟨#[102, 101, 119]⟩)) (first | with_reducible exact ⟨e0, e1, e2⟩ | with_reducible exact ⟨f0, f1, f2⟩) (first | (go_at_call 8; (refine (c_l21Dec n _ h0 h1).mono ?_); rintro e w1 ⟨rfl, u⟩; have f0 := (u.cell (cell_lt e0)).trans e0; have f1 := (u.cell (cell_lt e1)).trans e1; have f2 := (u.cell (cell_lt e2)).trans e2))
      all_goals
        go_wp2_with fail
        go_ret
        exact ⟨by rw [H.out]; first | done | rfl, uu.drew.trans u⟩
    · have hin : inB 7 1 7 = true := by decide
      have H : Hid (faultS 7 n = ⟨#[108, 111, 115, 116]⟩ ++ ⟨#[32]⟩ ++ itoaS n) := Lib.hid (by simp [faultS, hin, ftWord])
      have hw1 : IntKind.i64.wrap ((7 : Int) - 1) = 6 := by decide
      have hw2 : IntKind.i64.wrap (6 : Int) = 6 := by decide
      have kA : Bk ((w.alloc (.cells #[.int .i64 7, .int .i64 n] 25)).alloc (.cells #[.string ⟨#[]⟩, .string ⟨#[114, 111, 111, 116]⟩, .string ⟨#[107, 105, 100]⟩, .string ⟨#[116, 119, 105, 99, 101]⟩, .string ⟨#[111, 114, 100, 101, 114]⟩, .string ⟨#[100, 101, 101, 112]⟩, .string ⟨#[102, 101, 119]⟩, .string ⟨#[108, 111, 115, 116]⟩] 9)) w.heap.size 25 #[.int .i64 7, .int .i64 n] := (Bk.new _ _ _).alloc _
      have kS : Bk ((w.alloc (.cells #[.int .i64 7, .int .i64 n] 25)).alloc (.cells #[.string ⟨#[]⟩, .string ⟨#[114, 111, 111, 116]⟩, .string ⟨#[107, 105, 100]⟩, .string ⟨#[116, 119, 105, 99, 101]⟩, .string ⟨#[111, 114, 100, 101, 114]⟩, .string ⟨#[100, 101, 101, 112]⟩, .string ⟨#[102, 101, 119]⟩, .string ⟨#[108, 111, 115, 116]⟩] 9)) (w.heap.size + 1) 9 #[.string ⟨#[]⟩, .string ⟨#[114, 111, 111, 116]⟩, .string ⟨#[107, 105, 100]⟩, .string ⟨#[116, 119, 105, 99, 101]⟩, .string ⟨#[111, 114, 100, 101, 114]⟩, .string ⟨#[100, 101, 101, 112]⟩, .string ⟨#[102, 101, 119]⟩, .string ⟨#[108, 111, 115, 116]⟩] := by simpa using Bk.new (w.alloc (.cells #[.int .i64 7, .int .i64 n] 25)) 9 #[.string ⟨#[]⟩, .string ⟨#[114, 111, 111, 116]⟩, .string ⟨#[107, 105, 100]⟩, .string ⟨#[116, 119, 105, 99, 101]⟩, .string ⟨#[111, 114, 100, 101, 114]⟩, .string ⟨#[100, 101, 101, 112]⟩, .string ⟨#[102, 101, 119]⟩, .string ⟨#[108, 111, 115, 116]⟩]
      have uu : Up w ((w.alloc (.cells #[.int .i64 7, .int .i64 n] 25)).alloc (.cells #[.string ⟨#[]⟩, .string ⟨#[114, 111, 111, 116]⟩, .string ⟨#[107, 105, 100]⟩, .string ⟨#[116, 119, 105, 99, 101]⟩, .string ⟨#[111, 114, 100, 101, 114]⟩, .string ⟨#[100, 101, 101, 112]⟩, .string ⟨#[102, 101, 119]⟩, .string ⟨#[108, 111, 115, 116]⟩] 9)) := ((Up.refl w).alloc _).alloc _
      have e0 : ((w.alloc (.cells #[.int .i64 7, .int .i64 n] 25)).alloc (.cells #[.string ⟨#[]⟩, .string ⟨#[114, 111, 111, 116]⟩, .string ⟨#[107, 105, 100]⟩, .string ⟨#[116, 119, 105, 99, 101]⟩, .string ⟨#[111, 114, 100, 101, 114]⟩, .string ⟨#[100, 101, 101, 112]⟩, .string ⟨#[102, 101, 119]⟩, .string ⟨#[108, 111, 115, 116]⟩] 9)).drew.cell? ⟨w.heap.size, 0, none⟩ = some (.int .i64 7) := kA.cell 0
      have e1 : ((w.alloc (.cells #[.int .i64 7, .int .i64 n] 25)).alloc (.cells #[.string ⟨#[]⟩, .string ⟨#[114, 111, 111, 116]⟩, .string ⟨#[107, 105, 100]⟩, .string ⟨#[116, 119, 105, 99, 101]⟩, .string ⟨#[111, 114, 100, 101, 114]⟩, .string ⟨#[100, 101, 101, 112]⟩, .string ⟨#[102, 101, 119]⟩, .string ⟨#[108, 111, 115, 116]⟩] 9)).drew.cell? ⟨w.heap.size, 1, none⟩ = some (.int .i64 n) := kA.cell 1
      have e2 : ((w.alloc (.cells #[.int .i64 7, .int .i64 n] 25)).alloc (.cells #[.string ⟨#[]⟩, .string ⟨#[114, 111, 111, 116]⟩, .string ⟨#[107, 105, 100]⟩, .string ⟨#[116, 119, 105, 99, 101]⟩, .string ⟨#[111, 114, 100, 101, 114]⟩, .string ⟨#[100, 101, 101, 112]⟩, .string ⟨#[102, 101, 119]⟩, .string ⟨#[108, 111, 115, 116]⟩] 9)).drew.cell? ⟨w.heap.size + 1, 7, none⟩ = some (.string ⟨#[108, 111, 115, 116]⟩) := kS.cell 7
      have hz1 : ¬ 9223372036854775807 < (ByteArray.mk #[108, 111, 115, 116]).size + (ByteArray.mk #[32]).size := by decide
      have hz2 := size_ok (a := ⟨#[108, 111, 115, 116]⟩) (by decide) hs
      have hz3 : ¬ 9223372036854775807 < 5 + (itoaS n).size := by omega
      have hz4 : ¬ 9223372036854775807 < (ByteArray.mk #[108, 111, 115, 116, 32]).size + (itoaS n).size := by have : (ByteArray.mk #[108, 111, 115, 116, 32]).size = 5 := rfl; omega
      have hz5 : 5 + (itoaS n).size ≤ 9223372036854775807 := by omega
      have hz6 : ¬ 9223372036854775807 < 4 + 1 + (itoaS n).size := by omega
      go_enter Tryd.func4, Tryd.ntmps4
      go_wp2_with (go_at_call 7; refine (in_any _ _ _ _).mono ?_; rintro e w' ⟨rfl, rfl⟩)
      go_region_held3 (fun W => W.cell? ⟨w.heap.size, 0, none⟩ = some (.int .i64 7) ∧ W.cell? ⟨w.heap.size, 1, none⟩ = some (.int .i64 n) ∧ W.cell? ⟨w.heap.size + 1, 7, none⟩ = some (.string ⟨#[108, 111, 115, 116]⟩)) (first | with_reducible exact ⟨e0, e1, e2⟩ | with_reducible exact ⟨f0, f1, f2⟩) (first | (go_at_call 8; (refine (c_l21Dec n _ h0 h1).mono ?_); rintro e w1 ⟨rfl, u⟩; have f0 := (u.cell (cell_lt e0)).trans e0; have f1 := (u.cell (cell_lt e1)).trans e1; have f2 := (u.cell (cell_lt e2)).trans e2))
      all_goals
        go_wp2_with fail
        go_ret
        exact ⟨by rw [H.out]; first | done | rfl, uu.drew.trans u⟩
set_option maxRecDepth 100000 in
set_option maxHeartbeats 4000000 in
theorem c_implFaultText (k n : Int) (w : World) (h0 : -9223372036854775808 ≤ n) (h1 : n ≤ 9223372036854775807) (htab : Lib.TabIs Tryd.prog w "internal/strconv.uint64pow10" .u64 Lib.pow10Tab) : Calls Tryd.prog 6 #[.agg #[.int .i64 k, .int .i64 n]] w (RetV (.string (faultS k n)) w) := by
  cases hin : inB k 1 7
  · have H : Hid (faultS k n = ⟨#[]⟩) := Lib.hid (by simp [faultS, hin])
    go_enter Tryd.func6, Tryd.ntmps6
    go_wp2_with (go_at_call 9; refine (within_any _ _ _ _).mono ?_; rintro e w' ⟨rfl, rfl⟩)
    go_ret
    exact ⟨by rw [H.out]; first | done | rfl, by repeat (first | exact Up.refl w | refine Up.alloc ?_ _)⟩
  · have hk := inB_t.1 hin
    have hs := itoaS_size h0 h1
    have hk7 : k = 1 ∨ k = 2 ∨ k = 3 ∨ k = 4 ∨ k = 5 ∨ k = 6 ∨ k = 7 := by omega
    clear hin hk
    rcases hk7 with rfl | rfl | rfl | rfl | rfl | rfl | rfl
    · have hin : inB 1 1 7 = true := by decide
      have H : Hid (faultS 1 n = ⟨#[114, 111, 111, 116]⟩ ++ ⟨#[32]⟩ ++ itoaS n) := Lib.hid (by simp [faultS, hin, ftWord])
      have hw1 : IntKind.i64.wrap ((1 : Int) - 1) = 0 := by decide
      have hw2 : IntKind.i64.wrap (0 : Int) = 0 := by decide
      have kA : Bk ((w.alloc (.cells #[.int .i64 1, .int .i64 n] 25)).alloc (.cells #[.string ⟨#[114, 111, 111, 116]⟩, .string ⟨#[107, 105, 100]⟩, .string ⟨#[116, 119, 105, 99, 101]⟩, .string ⟨#[111, 114, 100, 101, 114]⟩, .string ⟨#[100, 101, 101, 112]⟩, .string ⟨#[102, 101, 119]⟩, .string ⟨#[108, 111, 115, 116]⟩] 9)) w.heap.size 25 #[.int .i64 1, .int .i64 n] := (Bk.new _ _ _).alloc _
      have kS : Bk ((w.alloc (.cells #[.int .i64 1, .int .i64 n] 25)).alloc (.cells #[.string ⟨#[114, 111, 111, 116]⟩, .string ⟨#[107, 105, 100]⟩, .string ⟨#[116, 119, 105, 99, 101]⟩, .string ⟨#[111, 114, 100, 101, 114]⟩, .string ⟨#[100, 101, 101, 112]⟩, .string ⟨#[102, 101, 119]⟩, .string ⟨#[108, 111, 115, 116]⟩] 9)) (w.heap.size + 1) 9 #[.string ⟨#[114, 111, 111, 116]⟩, .string ⟨#[107, 105, 100]⟩, .string ⟨#[116, 119, 105, 99, 101]⟩, .string ⟨#[111, 114, 100, 101, 114]⟩, .string ⟨#[100, 101, 101, 112]⟩, .string ⟨#[102, 101, 119]⟩, .string ⟨#[108, 111, 115, 116]⟩] := by simpa using Bk.new (w.alloc (.cells #[.int .i64 1, .int .i64 n] 25)) 9 #[.string ⟨#[114, 111, 111, 116]⟩, .string ⟨#[107, 105, 100]⟩, .string ⟨#[116, 119, 105, 99, 101]⟩, .string ⟨#[111, 114, 100, 101, 114]⟩, .string ⟨#[100, 101, 101, 112]⟩, .string ⟨#[102, 101, 119]⟩, .string ⟨#[108, 111, 115, 116]⟩]
      have uu : Up w ((w.alloc (.cells #[.int .i64 1, .int .i64 n] 25)).alloc (.cells #[.string ⟨#[114, 111, 111, 116]⟩, .string ⟨#[107, 105, 100]⟩, .string ⟨#[116, 119, 105, 99, 101]⟩, .string ⟨#[111, 114, 100, 101, 114]⟩, .string ⟨#[100, 101, 101, 112]⟩, .string ⟨#[102, 101, 119]⟩, .string ⟨#[108, 111, 115, 116]⟩] 9)) := ((Up.refl w).alloc _).alloc _
      have e0 : ((w.alloc (.cells #[.int .i64 1, .int .i64 n] 25)).alloc (.cells #[.string ⟨#[114, 111, 111, 116]⟩, .string ⟨#[107, 105, 100]⟩, .string ⟨#[116, 119, 105, 99, 101]⟩, .string ⟨#[111, 114, 100, 101, 114]⟩, .string ⟨#[100, 101, 101, 112]⟩, .string ⟨#[102, 101, 119]⟩, .string ⟨#[108, 111, 115, 116]⟩] 9)).drew.cell? ⟨w.heap.size, 0, none⟩ = some (.int .i64 1) := kA.cell 0
      have e1 : ((w.alloc (.cells #[.int .i64 1, .int .i64 n] 25)).alloc (.cells #[.string ⟨#[114, 111, 111, 116]⟩, .string ⟨#[107, 105, 100]⟩, .string ⟨#[116, 119, 105, 99, 101]⟩, .string ⟨#[111, 114, 100, 101, 114]⟩, .string ⟨#[100, 101, 101, 112]⟩, .string ⟨#[102, 101, 119]⟩, .string ⟨#[108, 111, 115, 116]⟩] 9)).drew.cell? ⟨w.heap.size, 1, none⟩ = some (.int .i64 n) := kA.cell 1
      have e2 : ((w.alloc (.cells #[.int .i64 1, .int .i64 n] 25)).alloc (.cells #[.string ⟨#[114, 111, 111, 116]⟩, .string ⟨#[107, 105, 100]⟩, .string ⟨#[116, 119, 105, 99, 101]⟩, .string ⟨#[111, 114, 100, 101, 114]⟩, .string ⟨#[100, 101, 101, 112]⟩, .string ⟨#[102, 101, 119]⟩, .string ⟨#[108, 111, 115, 116]⟩] 9)).drew.cell? ⟨w.heap.size + 1, 0, none⟩ = some (.string ⟨#[114, 111, 111, 116]⟩) := kS.cell 0
      have hz1 : ¬ 9223372036854775807 < (ByteArray.mk #[114, 111, 111, 116]).size + (ByteArray.mk #[32]).size := by decide
      have hz2 := size_ok (a := ⟨#[114, 111, 111, 116]⟩) (by decide) hs
      have hz3 : ¬ 9223372036854775807 < 5 + (itoaS n).size := by omega
      have hz4 : ¬ 9223372036854775807 < (ByteArray.mk #[114, 111, 111, 116, 32]).size + (itoaS n).size := by have : (ByteArray.mk #[114, 111, 111, 116, 32]).size = 5 := rfl; omega
      have hz5 : 5 + (itoaS n).size ≤ 9223372036854775807 := by omega
      have hz6 : ¬ 9223372036854775807 < 4 + 1 + (itoaS n).size := by omega
      go_enter Tryd.func6, Tryd.ntmps6
      go_wp2_with (go_at_call 9; refine (within_any _ _ _ _).mono ?_; rintro e w' ⟨rfl, rfl⟩)
      go_region_held3 (fun W => W.cell? ⟨w.heap.size, 0, none⟩ = some (.int .i64 1) ∧ W.cell? ⟨w.heap.size, 1, none⟩ = some (.int .i64 n) ∧ W.cell? ⟨w.heap.size + 1, 0, none⟩ = some (.string ⟨#[114, 111, 111, 116]⟩)) (first | with_reducible exact ⟨e0, e1, e2⟩ | with_reducible exact ⟨f0, f1, f2⟩) (first | (go_at_call 10; (refine (c_format n _ h0 h1 (tab_up htab uu.drew)).mono ?_); rintro e w1 ⟨rfl, u⟩; have f0 := (u.cell (cell_lt e0)).trans e0; have f1 := (u.cell (cell_lt e1)).trans e1; have f2 := (u.cell (cell_lt e2)).trans e2))
      all_goals
        go_wp2_with fail
        go_ret
        exact ⟨by rw [H.out]; first | done | rfl, uu.drew.trans u⟩
    · have hin : inB 2 1 7 = true := by decide
      have H : Hid (faultS 2 n = ⟨#[107, 105, 100]⟩ ++ ⟨#[32]⟩ ++ itoaS n) := Lib.hid (by simp [faultS, hin, ftWord])
      have hw1 : IntKind.i64.wrap ((2 : Int) - 1) = 1 := by decide
      have hw2 : IntKind.i64.wrap (1 : Int) = 1 := by decide
      have kA : Bk ((w.alloc (.cells #[.int .i64 2, .int .i64 n] 25)).alloc (.cells #[.string ⟨#[114, 111, 111, 116]⟩, .string ⟨#[107, 105, 100]⟩, .string ⟨#[116, 119, 105, 99, 101]⟩, .string ⟨#[111, 114, 100, 101, 114]⟩, .string ⟨#[100, 101, 101, 112]⟩, .string ⟨#[102, 101, 119]⟩, .string ⟨#[108, 111, 115, 116]⟩] 9)) w.heap.size 25 #[.int .i64 2, .int .i64 n] := (Bk.new _ _ _).alloc _
      have kS : Bk ((w.alloc (.cells #[.int .i64 2, .int .i64 n] 25)).alloc (.cells #[.string ⟨#[114, 111, 111, 116]⟩, .string ⟨#[107, 105, 100]⟩, .string ⟨#[116, 119, 105, 99, 101]⟩, .string ⟨#[111, 114, 100, 101, 114]⟩, .string ⟨#[100, 101, 101, 112]⟩, .string ⟨#[102, 101, 119]⟩, .string ⟨#[108, 111, 115, 116]⟩] 9)) (w.heap.size + 1) 9 #[.string ⟨#[114, 111, 111, 116]⟩, .string ⟨#[107, 105, 100]⟩, .string ⟨#[116, 119, 105, 99, 101]⟩, .string ⟨#[111, 114, 100, 101, 114]⟩, .string ⟨#[100, 101, 101, 112]⟩, .string ⟨#[102, 101, 119]⟩, .string ⟨#[108, 111, 115, 116]⟩] := by simpa using Bk.new (w.alloc (.cells #[.int .i64 2, .int .i64 n] 25)) 9 #[.string ⟨#[114, 111, 111, 116]⟩, .string ⟨#[107, 105, 100]⟩, .string ⟨#[116, 119, 105, 99, 101]⟩, .string ⟨#[111, 114, 100, 101, 114]⟩, .string ⟨#[100, 101, 101, 112]⟩, .string ⟨#[102, 101, 119]⟩, .string ⟨#[108, 111, 115, 116]⟩]
      have uu : Up w ((w.alloc (.cells #[.int .i64 2, .int .i64 n] 25)).alloc (.cells #[.string ⟨#[114, 111, 111, 116]⟩, .string ⟨#[107, 105, 100]⟩, .string ⟨#[116, 119, 105, 99, 101]⟩, .string ⟨#[111, 114, 100, 101, 114]⟩, .string ⟨#[100, 101, 101, 112]⟩, .string ⟨#[102, 101, 119]⟩, .string ⟨#[108, 111, 115, 116]⟩] 9)) := ((Up.refl w).alloc _).alloc _
      have e0 : ((w.alloc (.cells #[.int .i64 2, .int .i64 n] 25)).alloc (.cells #[.string ⟨#[114, 111, 111, 116]⟩, .string ⟨#[107, 105, 100]⟩, .string ⟨#[116, 119, 105, 99, 101]⟩, .string ⟨#[111, 114, 100, 101, 114]⟩, .string ⟨#[100, 101, 101, 112]⟩, .string ⟨#[102, 101, 119]⟩, .string ⟨#[108, 111, 115, 116]⟩] 9)).drew.cell? ⟨w.heap.size, 0, none⟩ = some (.int .i64 2) := kA.cell 0
      have e1 : ((w.alloc (.cells #[.int .i64 2, .int .i64 n] 25)).alloc (.cells #[.string ⟨#[114, 111, 111, 116]⟩, .string ⟨#[107, 105, 100]⟩, .string ⟨#[116, 119, 105, 99, 101]⟩, .string ⟨#[111, 114, 100, 101, 114]⟩, .string ⟨#[100, 101, 101, 112]⟩, .string ⟨#[102, 101, 119]⟩, .string ⟨#[108, 111, 115, 116]⟩] 9)).drew.cell? ⟨w.heap.size, 1, none⟩ = some (.int .i64 n) := kA.cell 1
      have e2 : ((w.alloc (.cells #[.int .i64 2, .int .i64 n] 25)).alloc (.cells #[.string ⟨#[114, 111, 111, 116]⟩, .string ⟨#[107, 105, 100]⟩, .string ⟨#[116, 119, 105, 99, 101]⟩, .string ⟨#[111, 114, 100, 101, 114]⟩, .string ⟨#[100, 101, 101, 112]⟩, .string ⟨#[102, 101, 119]⟩, .string ⟨#[108, 111, 115, 116]⟩] 9)).drew.cell? ⟨w.heap.size + 1, 1, none⟩ = some (.string ⟨#[107, 105, 100]⟩) := kS.cell 1
      have hz1 : ¬ 9223372036854775807 < (ByteArray.mk #[107, 105, 100]).size + (ByteArray.mk #[32]).size := by decide
      have hz2 := size_ok (a := ⟨#[107, 105, 100]⟩) (by decide) hs
      have hz3 : ¬ 9223372036854775807 < 4 + (itoaS n).size := by omega
      have hz4 : ¬ 9223372036854775807 < (ByteArray.mk #[107, 105, 100, 32]).size + (itoaS n).size := by have : (ByteArray.mk #[107, 105, 100, 32]).size = 4 := rfl; omega
      have hz5 : 4 + (itoaS n).size ≤ 9223372036854775807 := by omega
      have hz6 : ¬ 9223372036854775807 < 3 + 1 + (itoaS n).size := by omega
      go_enter Tryd.func6, Tryd.ntmps6
      go_wp2_with (go_at_call 9; refine (within_any _ _ _ _).mono ?_; rintro e w' ⟨rfl, rfl⟩)
      go_region_held3 (fun W => W.cell? ⟨w.heap.size, 0, none⟩ = some (.int .i64 2) ∧ W.cell? ⟨w.heap.size, 1, none⟩ = some (.int .i64 n) ∧ W.cell? ⟨w.heap.size + 1, 1, none⟩ = some (.string ⟨#[107, 105, 100]⟩)) (first | with_reducible exact ⟨e0, e1, e2⟩ | with_reducible exact ⟨f0, f1, f2⟩) (first | (go_at_call 10; (refine (c_format n _ h0 h1 (tab_up htab uu.drew)).mono ?_); rintro e w1 ⟨rfl, u⟩; have f0 := (u.cell (cell_lt e0)).trans e0; have f1 := (u.cell (cell_lt e1)).trans e1; have f2 := (u.cell (cell_lt e2)).trans e2))
      all_goals
        go_wp2_with fail
        go_ret
        exact ⟨by rw [H.out]; first | done | rfl, uu.drew.trans u⟩
    · have hin : inB 3 1 7 = true := by decide
      have H : Hid (faultS 3 n = ⟨#[116, 119, 105, 99, 101]⟩ ++ ⟨#[32]⟩ ++ itoaS n) := Lib.hid (by simp [faultS, hin, ftWord])
      have hw1 : IntKind.i64.wrap ((3 : Int) - 1) = 2 := by decide
      have hw2 : IntKind.i64.wrap (2 : Int) = 2 := by decide
      have kA : Bk ((w.alloc (.cells #[.int .i64 3, .int .i64 n] 25)).alloc (.cells #[.string ⟨#[114, 111, 111, 116]⟩, .string ⟨#[107, 105, 100]⟩, .string ⟨#[116, 119, 105, 99, 101]⟩, .string ⟨#[111, 114, 100, 101, 114]⟩, .string ⟨#[100, 101, 101, 112]⟩, .string ⟨#[102, 101, 119]⟩, .string ⟨#[108, 111, 115, 116]⟩] 9)) w.heap.size 25 #[.int .i64 3, .int .i64 n] := (Bk.new _ _ _).alloc _
      have kS : Bk ((w.alloc (.cells #[.int .i64 3, .int .i64 n] 25)).alloc (.cells #[.string ⟨#[114, 111, 111, 116]⟩, .string ⟨#[107, 105, 100]⟩, .string ⟨#[116, 119, 105, 99, 101]⟩, .string ⟨#[111, 114, 100, 101, 114]⟩, .string ⟨#[100, 101, 101, 112]⟩, .string ⟨#[102, 101, 119]⟩, .string ⟨#[108, 111, 115, 116]⟩] 9)) (w.heap.size + 1) 9 #[.string ⟨#[114, 111, 111, 116]⟩, .string ⟨#[107, 105, 100]⟩, .string ⟨#[116, 119, 105, 99, 101]⟩, .string ⟨#[111, 114, 100, 101, 114]⟩, .string ⟨#[100, 101, 101, 112]⟩, .string ⟨#[102, 101, 119]⟩, .string ⟨#[108, 111, 115, 116]⟩] := by simpa using Bk.new (w.alloc (.cells #[.int .i64 3, .int .i64 n] 25)) 9 #[.string ⟨#[114, 111, 111, 116]⟩, .string ⟨#[107, 105, 100]⟩, .string ⟨#[116, 119, 105, 99, 101]⟩, .string ⟨#[111, 114, 100, 101, 114]⟩, .string ⟨#[100, 101, 101, 112]⟩, .string ⟨#[102, 101, 119]⟩, .string ⟨#[108, 111, 115, 116]⟩]
      have uu : Up w ((w.alloc (.cells #[.int .i64 3, .int .i64 n] 25)).alloc (.cells #[.string ⟨#[114, 111, 111, 116]⟩, .string ⟨#[107, 105, 100]⟩, .string ⟨#[116, 119, 105, 99, 101]⟩, .string ⟨#[111, 114, 100, 101, 114]⟩, .string ⟨#[100, 101, 101, 112]⟩, .string ⟨#[102, 101, 119]⟩, .string ⟨#[108, 111, 115, 116]⟩] 9)) := ((Up.refl w).alloc _).alloc _
      have e0 : ((w.alloc (.cells #[.int .i64 3, .int .i64 n] 25)).alloc (.cells #[.string ⟨#[114, 111, 111, 116]⟩, .string ⟨#[107, 105, 100]⟩, .string ⟨#[116, 119, 105, 99, 101]⟩, .string ⟨#[111, 114, 100, 101, 114]⟩, .string ⟨#[100, 101, 101, 112]⟩, .string ⟨#[102, 101, 119]⟩, .string ⟨#[108, 111, 115, 116]⟩] 9)).drew.cell? ⟨w.heap.size, 0, none⟩ = some (.int .i64 3) := kA.cell 0
      have e1 : ((w.alloc (.cells #[.int .i64 3, .int .i64 n] 25)).alloc (.cells #[.string ⟨#[114, 111, 111, 116]⟩, .string ⟨#[107, 105, 100]⟩, .string ⟨#[116, 119, 105, 99, 101]⟩, .string ⟨#[111, 114, 100, 101, 114]⟩, .string ⟨#[100, 101, 101, 112]⟩, .string ⟨#[102, 101, 119]⟩, .string ⟨#[108, 111, 115, 116]⟩] 9)).drew.cell? ⟨w.heap.size, 1, none⟩ = some (.int .i64 n) := kA.cell 1
      have e2 : ((w.alloc (.cells #[.int .i64 3, .int .i64 n] 25)).alloc (.cells #[.string ⟨#[114, 111, 111, 116]⟩, .string ⟨#[107, 105, 100]⟩, .string ⟨#[116, 119, 105, 99, 101]⟩, .string ⟨#[111, 114, 100, 101, 114]⟩, .string ⟨#[100, 101, 101, 112]⟩, .string ⟨#[102, 101, 119]⟩, .string ⟨#[108, 111, 115, 116]⟩] 9)).drew.cell? ⟨w.heap.size + 1, 2, none⟩ = some (.string ⟨#[116, 119, 105, 99, 101]⟩) := kS.cell 2
      have hz1 : ¬ 9223372036854775807 < (ByteArray.mk #[116, 119, 105, 99, 101]).size + (ByteArray.mk #[32]).size := by decide
      have hz2 := size_ok (a := ⟨#[116, 119, 105, 99, 101]⟩) (by decide) hs
      have hz3 : ¬ 9223372036854775807 < 6 + (itoaS n).size := by omega
      have hz4 : ¬ 9223372036854775807 < (ByteArray.mk #[116, 119, 105, 99, 101, 32]).size + (itoaS n).size := by have : (ByteArray.mk #[116, 119, 105, 99, 101, 32]).size = 6 := rfl; omega
      have hz5 : 6 + (itoaS n).size ≤ 9223372036854775807 := by omega
      have hz6 : ¬ 9223372036854775807 < 5 + 1 + (itoaS n).size := by omega
      go_enter Tryd.func6, Tryd.ntmps6
      go_wp2_with (go_at_call 9; refine (within_any _ _ _ _).mono ?_; rintro e w' ⟨rfl, rfl⟩)
      go_region_held3 (fun W => W.cell? ⟨w.heap.size, 0, none⟩ = some (.int .i64 3) ∧ W.cell? ⟨w.heap.size, 1, none⟩ = some (.int .i64 n) ∧ W.cell? ⟨w.heap.size + 1, 2, none⟩ = some (.string ⟨#[116, 119, 105, 99, 101]⟩)) (first | with_reducible exact ⟨e0, e1, e2⟩ | with_reducible exact ⟨f0, f1, f2⟩) (first | (go_at_call 10; (refine (c_format n _ h0 h1 (tab_up htab uu.drew)).mono ?_); rintro e w1 ⟨rfl, u⟩; have f0 := (u.cell (cell_lt e0)).trans e0; have f1 := (u.cell (cell_lt e1)).trans e1; have f2 := (u.cell (cell_lt e2)).trans e2))
      all_goals
        go_wp2_with fail
        go_ret
        exact ⟨by rw [H.out]; first | done | rfl, uu.drew.trans u⟩
    · have hin : inB 4 1 7 = true := by decide
      have H : Hid (faultS 4 n = ⟨#[111, 114, 100, 101, 114]⟩ ++ ⟨#[32]⟩ ++ itoaS n) := Lib.hid (by simp [faultS, hin, ftWord])
      have hw1 : IntKind.i64.wrap ((4 : Int) - 1) = 3 := by decide
      have hw2 : IntKind.i64.wrap (3 : Int) = 3 := by decide
      have kA : Bk ((w.alloc (.cells #[.int .i64 4, .int .i64 n] 25)).alloc (.cells #[.string ⟨#[114, 111, 111, 116]⟩, .string ⟨#[107, 105, 100]⟩, .string ⟨#[116, 119, 105, 99, 101]⟩, .string ⟨#[111, 114, 100, 101, 114]⟩, .string ⟨#[100, 101, 101, 112]⟩, .string ⟨#[102, 101, 119]⟩, .string ⟨#[108, 111, 115, 116]⟩] 9)) w.heap.size 25 #[.int .i64 4, .int .i64 n] := (Bk.new _ _ _).alloc _
      have kS : Bk ((w.alloc (.cells #[.int .i64 4, .int .i64 n] 25)).alloc (.cells #[.string ⟨#[114, 111, 111, 116]⟩, .string ⟨#[107, 105, 100]⟩, .string ⟨#[116, 119, 105, 99, 101]⟩, .string ⟨#[111, 114, 100, 101, 114]⟩, .string ⟨#[100, 101, 101, 112]⟩, .string ⟨#[102, 101, 119]⟩, .string ⟨#[108, 111, 115, 116]⟩] 9)) (w.heap.size + 1) 9 #[.string ⟨#[114, 111, 111, 116]⟩, .string ⟨#[107, 105, 100]⟩, .string ⟨#[116, 119, 105, 99, 101]⟩, .string ⟨#[111, 114, 100, 101, 114]⟩, .string ⟨#[100, 101, 101, 112]⟩, .string ⟨#[102, 101, 119]⟩, .string ⟨#[108, 111, 115, 116]⟩] := by simpa using Bk.new (w.alloc (.cells #[.int .i64 4, .int .i64 n] 25)) 9 #[.string ⟨#[114, 111, 111, 116]⟩, .string ⟨#[107, 105, 100]⟩, .string ⟨#[116, 119, 105, 99, 101]⟩, .string ⟨#[111, 114, 100, 101, 114]⟩, .string ⟨#[100, 101, 101, 112]⟩, .string ⟨#[102, 101, 119]⟩, .string ⟨#[108, 111, 115, 116]⟩]
      have uu : Up w ((w.alloc (.cells #[.int .i64 4, .int .i64 n] 25)).alloc (.cells #[.string ⟨#[114, 111, 111, 116]⟩, .string ⟨#[107, 105, 100]⟩, .string ⟨#[116, 119, 105, 99, 101]⟩, .string ⟨#[111, 114, 100, 101, 114]⟩, .string ⟨#[100, 101, 101, 112]⟩, .string ⟨#[102, 101, 119]⟩, .string ⟨#[108, 111, 115, 116]⟩] 9)) := ((Up.refl w).alloc _).alloc _
      have e0 : ((w.alloc (.cells #[.int .i64 4, .int .i64 n] 25)).alloc (.cells #[.string ⟨#[114, 111, 111, 116]⟩, .string ⟨#[107, 105, 100]⟩, .string ⟨#[116, 119, 105, 99, 101]⟩, .string ⟨#[111, 114, 100, 101, 114]⟩, .string ⟨#[100, 101, 101, 112]⟩, .string ⟨#[102, 101, 119]⟩, .string ⟨#[108, 111, 115, 116]⟩] 9)).drew.cell? ⟨w.heap.size, 0, none⟩ = some (.int .i64 4) := kA.cell 0
      have e1 : ((w.alloc (.cells #[.int .i64 4, .int .i64 n] 25)).alloc (.cells #[.string ⟨#[114, 111, 111, 116]⟩, .string ⟨#[107, 105, 100]⟩, .string ⟨#[116, 119, 105, 99, 101]⟩, .string ⟨#[111, 114, 100, 101, 114]⟩, .string ⟨#[100, 101, 101, 112]⟩, .string ⟨#[102, 101, 119]⟩, .string ⟨#[108, 111, 115, 116]⟩] 9)).drew.cell? ⟨w.heap.size, 1, none⟩ = some (.int .i64 n) := kA.cell 1
      have e2 : ((w.alloc (.cells #[.int .i64 4, .int .i64 n] 25)).alloc (.cells #[.string ⟨#[114, 111, 111, 116]⟩, .string ⟨#[107, 105, 100]⟩, .string ⟨#[116, 119, 105, 99, 101]⟩, .string ⟨#[111, 114, 100, 101, 114]⟩, .string ⟨#[100, 101, 101, 112]⟩, .string ⟨#[102, 101, 119]⟩, .string ⟨#[108, 111, 115, 116]⟩] 9)).drew.cell? ⟨w.heap.size + 1, 3, none⟩ = some (.string ⟨#[111, 114, 100, 101, 114]⟩) := kS.cell 3
      have hz1 : ¬ 9223372036854775807 < (ByteArray.mk #[111, 114, 100, 101, 114]).size + (ByteArray.mk #[32]).size := by decide
      have hz2 := size_ok (a := ⟨#[111, 114, 100, 101, 114]⟩) (by decide) hs
      have hz3 : ¬ 9223372036854775807 < 6 + (itoaS n).size := by omega
      have hz4 : ¬ 9223372036854775807 < (ByteArray.mk #[111, 114, 100, 101, 114, 32]).size + (itoaS n).size := by have : (ByteArray.mk #[111, 114, 100, 101, 114, 32]).size = 6 := rfl; omega
      have hz5 : 6 + (itoaS n).size ≤ 9223372036854775807 := by omega
      have hz6 : ¬ 9223372036854775807 < 5 + 1 + (itoaS n).size := by omega
      go_enter Tryd.func6, Tryd.ntmps6
      go_wp2_with (go_at_call 9; refine (within_any _ _ _ _).mono ?_; rintro e w' ⟨rfl, rfl⟩)
      go_region_held3 (fun W => W.cell? ⟨w.heap.size, 0, none⟩ = some (.int .i64 4) ∧ W.cell? ⟨w.heap.size, 1, none⟩ = some (.int .i64 n) ∧ W.cell? ⟨w.heap.size + 1, 3, none⟩ = some (.string ⟨#[111, 114, 100, 101, 114]⟩)) (first | with_reducible exact ⟨e0, e1, e2⟩ | with_reducible exact ⟨f0, f1, f2⟩) (first | (go_at_call 10; (refine (c_format n _ h0 h1 (tab_up htab uu.drew)).mono ?_); rintro e w1 ⟨rfl, u⟩; have f0 := (u.cell (cell_lt e0)).trans e0; have f1 := (u.cell (cell_lt e1)).trans e1; have f2 := (u.cell (cell_lt e2)).trans e2))
      all_goals
        go_wp2_with fail
        go_ret
        exact ⟨by rw [H.out]; first | done | rfl, uu.drew.trans u⟩
    · have hin : inB 5 1 7 = true := by decide
      have H : Hid (faultS 5 n = ⟨#[100, 101, 101, 112]⟩ ++ ⟨#[32]⟩ ++ itoaS n) := Lib.hid (by simp [faultS, hin, ftWord])
      have hw1 : IntKind.i64.wrap ((5 : Int) - 1) = 4 := by decide
      have hw2 : IntKind.i64.wrap (4 : Int) = 4 := by decide
      have kA : Bk ((w.alloc (.cells #[.int .i64 5, .int .i64 n] 25)).alloc (.cells #[.string ⟨#[114, 111, 111, 116]⟩, .string ⟨#[107, 105, 100]⟩, .string ⟨#[116, 119, 105, 99, 101]⟩, .string ⟨#[111, 114, 100, 101, 114]⟩, .string ⟨#[100, 101, 101, 112]⟩, .string ⟨#[102, 101, 119]⟩, .string ⟨#[108, 111, 115, 116]⟩] 9)) w.heap.size 25 #[.int .i64 5, .int .i64 n] := (Bk.new _ _ _).alloc _
      have kS : Bk ((w.alloc (.cells #[.int .i64 5, .int .i64 n] 25)).alloc (.cells #[.string ⟨#[114, 111, 111, 116]⟩, .string ⟨#[107, 105, 100]⟩, .string ⟨#[116, 119, 105, 99, 101]⟩, .string ⟨#[111, 114, 100, 101, 114]⟩, .string ⟨#[100, 101, 101, 112]⟩, .string ⟨#[102, 101, 119]⟩, .string ⟨#[108, 111, 115, 116]⟩] 9)) (w.heap.size + 1) 9 #[.string ⟨#[114, 111, 111, 116]⟩, .string ⟨#[107, 105, 100]⟩, .string ⟨#[116, 119, 105, 99, 101]⟩, .string ⟨#[111, 114, 100, 101, 114]⟩, .string ⟨#[100, 101, 101, 112]⟩, .string ⟨#[102, 101, 119]⟩, .string ⟨#[108, 111, 115, 116]⟩] := by simpa using Bk.new (w.alloc (.cells #[.int .i64 5, .int .i64 n] 25)) 9 #[.string ⟨#[114, 111, 111, 116]⟩, .string ⟨#[107, 105, 100]⟩, .string ⟨#[116, 119, 105, 99, 101]⟩, .string ⟨#[111, 114, 100, 101, 114]⟩, .string ⟨#[100, 101, 101, 112]⟩, .string ⟨#[102, 101, 119]⟩, .string ⟨#[108, 111, 115, 116]⟩]
      have uu : Up w ((w.alloc (.cells #[.int .i64 5, .int .i64 n] 25)).alloc (.cells #[.string ⟨#[114, 111, 111, 116]⟩, .string ⟨#[107, 105, 100]⟩, .string ⟨#[116, 119, 105, 99, 101]⟩, .string ⟨#[111, 114, 100, 101, 114]⟩, .string ⟨#[100, 101, 101, 112]⟩, .string ⟨#[102, 101, 119]⟩, .string ⟨#[108, 111, 115, 116]⟩] 9)) := ((Up.refl w).alloc _).alloc _
      have e0 : ((w.alloc (.cells #[.int .i64 5, .int .i64 n] 25)).alloc (.cells #[.string ⟨#[114, 111, 111, 116]⟩, .string ⟨#[107, 105, 100]⟩, .string ⟨#[116, 119, 105, 99, 101]⟩, .string ⟨#[111, 114, 100, 101, 114]⟩, .string ⟨#[100, 101, 101, 112]⟩, .string ⟨#[102, 101, 119]⟩, .string ⟨#[108, 111, 115, 116]⟩] 9)).drew.cell? ⟨w.heap.size, 0, none⟩ = some (.int .i64 5) := kA.cell 0
      have e1 : ((w.alloc (.cells #[.int .i64 5, .int .i64 n] 25)).alloc (.cells #[.string ⟨#[114, 111, 111, 116]⟩, .string ⟨#[107, 105, 100]⟩, .string ⟨#[116, 119, 105, 99, 101]⟩, .string ⟨#[111, 114, 100, 101, 114]⟩, .string ⟨#[100, 101, 101, 112]⟩, .string ⟨#[102, 101, 119]⟩, .string ⟨#[108, 111, 115, 116]⟩] 9)).drew.cell? ⟨w.heap.size, 1, none⟩ = some (.int .i64 n) := kA.cell 1
      have e2 : ((w.alloc (.cells #[.int .i64 5, .int .i64 n] 25)).alloc (.cells #[.string ⟨#[114, 111, 111, 116]⟩, .string ⟨#[107, 105, 100]⟩, .string ⟨#[116, 119, 105, 99, 101]⟩, .string ⟨#[111, 114, 100, 101, 114]⟩, .string ⟨#[100, 101, 101, 112]⟩, .string ⟨#[102, 101, 119]⟩, .string ⟨#[108, 111, 115, 116]⟩] 9)).drew.cell? ⟨w.heap.size + 1, 4, none⟩ = some (.string ⟨#[100, 101, 101, 112]⟩) := kS.cell 4
      have hz1 : ¬ 9223372036854775807 < (ByteArray.mk #[100, 101, 101, 112]).size + (ByteArray.mk #[32]).size := by decide
      have hz2 := size_ok (a := ⟨#[100, 101, 101, 112]⟩) (by decide) hs
      have hz3 : ¬ 9223372036854775807 < 5 + (itoaS n).size := by omega
      have hz4 : ¬ 9223372036854775807 < (ByteArray.mk #[100, 101, 101, 112, 32]).size + (itoaS n).size := by have : (ByteArray.mk #[100, 101, 101, 112, 32]).size = 5 := rfl; omega
      have hz5 : 5 + (itoaS n).size ≤ 9223372036854775807 := by omega
      have hz6 : ¬ 9223372036854775807 < 4 + 1 + (itoaS n).size := by omega
      go_enter Tryd.func6, Tryd.ntmps6
      go_wp2_with (go_at_call 9; refine (within_any _ _ _ _).mono ?_; rintro e w' ⟨rfl, rfl⟩)
      go_region_held3 (fun W => W.cell? ⟨w.heap.size, 0, none⟩ = some (.int .i64 5) ∧ W.cell? ⟨w.heap.size, 1, none⟩ = some (.int .i64 n) ∧ W.cell? ⟨w.heap.size + 1, 4, none⟩ = some (.string ⟨#[100, 101, 101, 112]⟩)) (first | with_reducible exact ⟨e0, e1, e2⟩ | with_reducible exact ⟨f0, f1, f2⟩) (first | (go_at_call 10; (refine (c_format n _ h0 h1 (tab_up htab uu.drew)).mono ?_); rintro e w1 ⟨rfl, u⟩; have f0 := (u.cell (cell_lt e0)).trans e0; have f1 := (u.cell (cell_lt e1)).trans e1; have f2 := (u.cell (cell_lt e2)).trans e2))
      all_goals
        go_wp2_with fail
        go_ret
        exact ⟨by rw [H.out]; first | done | rfl, uu.drew.trans u⟩
    · have hin : inB 6 1 7 = true := by decide
      have H : Hid (faultS 6 n = ⟨#[102, 101, 119]⟩ ++ ⟨#[32]⟩ ++ itoaS n) := Lib.hid (by simp [faultS, hin, ftWord])
      have hw1 : IntKind.i64.wrap ((6 : Int) - 1) = 5 := by decide
      have hw2 : IntKind.i64.wrap (5 : Int) = 5 := by decide
      have kA : Bk ((w.alloc (.cells #[.int .i64 6, .int .i64 n] 25)).alloc (.cells #[.string ⟨#[114, 111, 111, 116]⟩, .string ⟨#[107, 105, 100]⟩, .string ⟨#[116, 119, 105, 99, 101]⟩, .string ⟨#[111, 114, 100, 101, 114]⟩, .string ⟨#[100, 101, 101, 112]⟩, .string ⟨#[102, 101, 119]⟩, .string ⟨#[108, 111, 115, 116]⟩] 9)) w.heap.size 25 #[.int .i64 6, .int .i64 n] := (Bk.new _ _ _).alloc _
      have kS : Bk ((w.alloc (.cells #[.int .i64 6, .int .i64 n] 25)).alloc (.cells #[.string ⟨#[114, 111, 111, 116]⟩, .string ⟨#[107, 105, 100]⟩, .string ⟨#[116, 119, 105, 99, 101]⟩, .string ⟨#[111, 114, 100, 101, 114]⟩, .string ⟨#[100, 101, 101, 112]⟩, .string ⟨#[102, 101, 119]⟩, .string ⟨#[108, 111, 115, 116]⟩] 9)) (w.heap.size + 1) 9 #[.string ⟨#[114, 111, 111, 116]⟩, .string ⟨#[107, 105, 100]⟩, .string ⟨#[116, 119, 105, 99, 101]⟩, .string ⟨#[111, 114, 100, 101, 114]⟩, .string ⟨#[100, 101, 101, 112]⟩, .string ⟨#[102, 101, 119]⟩, .string ⟨#[108, 111, 115, 116]⟩] := by simpa using Bk.new (w.alloc (.cells #[.int .i64 6, .int .i64 n] 25)) 9 #[.string ⟨#[114, 111, 111, 116]⟩, .string ⟨#[107, 105, 100]⟩, .string ⟨#[116, 119, 105, 99, 101]⟩, .string ⟨#[111, 114, 100, 101, 114]⟩, .string ⟨#[100, 101, 101, 112]⟩, .string ⟨#[102, 101, 119]⟩, .string ⟨#[108, 111, 115, 116]⟩]
      have uu : Up w ((w.alloc (.cells #[.int .i64 6, .int .i64 n] 25)).alloc (.cells #[.string ⟨#[114, 111, 111, 116]⟩, .string ⟨#[107, 105, 100]⟩, .string ⟨#[116, 119, 105, 99, 101]⟩, .string ⟨#[111, 114, 100, 101, 114]⟩, .string ⟨#[100, 101, 101, 112]⟩, .string ⟨#[102, 101, 119]⟩, .string ⟨#[108, 111, 115, 116]⟩] 9)) := ((Up.refl w).alloc _).alloc _
      have e0 : ((w.alloc (.cells #[.int .i64 6, .int .i64 n] 25)).alloc (.cells #[.string ⟨#[114, 111, 111, 116]⟩, .string ⟨#[107, 105, 100]⟩, .string ⟨#[116, 119, 105, 99, 101]⟩, .string ⟨#[111, 114, 100, 101, 114]⟩, .string ⟨#[100, 101, 101, 112]⟩, .string ⟨#[102, 101, 119]⟩, .string ⟨#[108, 111, 115, 116]⟩] 9)).drew.cell? ⟨w.heap.size, 0, none⟩ = some (.int .i64 6) := kA.cell 0
      have e1 : ((w.alloc (.cells #[.int .i64 6, .int .i64 n] 25)).alloc (.cells #[.string ⟨#[114, 111, 111, 116]⟩, .string ⟨#[107, 105, 100]⟩, .string ⟨#[116, 119, 105, 99, 101]⟩, .string ⟨#[111, 114, 100, 101, 114]⟩, .string ⟨#[100, 101, 101, 112]⟩, .string ⟨#[102, 101, 119]⟩, .string ⟨#[108, 111, 115, 116]⟩] 9)).drew.cell? ⟨w.heap.size, 1, none⟩ = some (.int .i64 n) := kA.cell 1
      have e2 : ((w.alloc (.cells #[.int .i64 6, .int .i64 n] 25)).alloc (.cells #[.string ⟨#[114, 111, 111, 116]⟩, .string ⟨#[107, 105, 100]⟩, .string ⟨#[116, 119, 105, 99, 101]⟩, .string ⟨#[111, 114, 100, 101, 114]⟩, .string ⟨#[100, 101, 101, 112]⟩, .string ⟨#[102, 101, 119]⟩, .string ⟨#[108, 111, 115, 116]⟩] 9)).drew.cell? ⟨w.heap.size + 1, 5, none⟩ = some (.string ⟨#[102, 101, 119]⟩) := kS.cell 5
      have hz1 : ¬ 9223372036854775807 < (ByteArray.mk #[102, 101, 119]).size + (ByteArray.mk #[32]).size := by decide
      have hz2 := size_ok (a := ⟨#[102, 101, 119]⟩) (by decide) hs
      have hz3 : ¬ 9223372036854775807 < 4 + (itoaS n).size := by omega
      have hz4 : ¬ 9223372036854775807 < (ByteArray.mk #[102, 101, 119, 32]).size + (itoaS n).size := by have : (ByteArray.mk #[102, 101, 119, 32]).size = 4 := rfl; omega
      have hz5 : 4 + (itoaS n).size ≤ 9223372036854775807 := by omega
      have hz6 : ¬ 9223372036854775807 < 3 + 1 + (itoaS n).size := by omega
      go_enter Tryd.func6, Tryd.ntmps6
      go_wp2_with (go_at_call 9; refine (within_any _ _ _ _).mono ?_; rintro e w' ⟨rfl, rfl⟩)
      go_region_held3 (fun W => W.cell? ⟨w.heap.size, 0, none⟩ = some (.int .i64 6) ∧ W.cell? ⟨w.heap.size, 1, none⟩ = some (.int .i64 n) ∧ W.cell? ⟨w.heap.size + 1, 5, none⟩ = some (.string ⟨#[102, 101, 119]⟩)) (first | with_reducible exact ⟨e0, e1, e2⟩ | with_reducible exact ⟨f0, f1, f2⟩) (first | (go_at_call 10; (refine (c_format n _ h0 h1 (tab_up htab uu.drew)).mono ?_); rintro e w1 ⟨rfl, u⟩; have f0 := (u.cell (cell_lt e0)).trans e0; have f1 := (u.cell (cell_lt e1)).trans e1; have f2 := (u.cell (cell_lt e2)).trans e2))
      all_goals
        go_wp2_with fail
        go_ret
        exact ⟨by rw [H.out]; first | done | rfl, uu.drew.trans u⟩
    · have hin : inB 7 1 7 = true := by decide
      have H : Hid (faultS 7 n = ⟨#[108, 111, 115, 116]⟩ ++ ⟨#[32]⟩ ++ itoaS n) := Lib.hid (by simp [faultS, hin, ftWord])
      have hw1 : IntKind.i64.wrap ((7 : Int) - 1) = 6 := by decide
      have hw2 : IntKind.i64.wrap (6 : Int) = 6 := by decide
      have kA : Bk ((w.alloc (.cells #[.int .i64 7, .int .i64 n] 25)).alloc (.cells #[.string ⟨#[114, 111, 111, 116]⟩, .string ⟨#[107, 105, 100]⟩, .string ⟨#[116, 119, 105, 99, 101]⟩, .string ⟨#[111, 114, 100, 101, 114]⟩, .string ⟨#[100, 101, 101, 112]⟩, .string ⟨#[102, 101, 119]⟩, .string ⟨#[108, 111, 115, 116]⟩] 9)) w.heap.size 25 #[.int .i64 7, .int .i64 n] := (Bk.new _ _ _).alloc _
      have kS : Bk ((w.alloc (.cells #[.int .i64 7, .int .i64 n] 25)).alloc (.cells #[.string ⟨#[114, 111, 111, 116]⟩, .string ⟨#[107, 105, 100]⟩, .string ⟨#[116, 119, 105, 99, 101]⟩, .string ⟨#[111, 114, 100, 101, 114]⟩, .string ⟨#[100, 101, 101, 112]⟩, .string ⟨#[102, 101, 119]⟩, .string ⟨#[108, 111, 115, 116]⟩] 9)) (w.heap.size + 1) 9 #[.string ⟨#[114, 111, 111, 116]⟩, .string ⟨#[107, 105, 100]⟩, .string ⟨#[116, 119, 105, 99, 101]⟩, .string ⟨#[111, 114, 100, 101, 114]⟩, .string ⟨#[100, 101, 101, 112]⟩, .string ⟨#[102, 101, 119]⟩, .string ⟨#[108, 111, 115, 116]⟩] := by simpa using Bk.new (w.alloc (.cells #[.int .i64 7, .int .i64 n] 25)) 9 #[.string ⟨#[114, 111, 111, 116]⟩, .string ⟨#[107, 105, 100]⟩, .string ⟨#[116, 119, 105, 99, 101]⟩, .string ⟨#[111, 114, 100, 101, 114]⟩, .string ⟨#[100, 101, 101, 112]⟩, .string ⟨#[102, 101, 119]⟩, .string ⟨#[108, 111, 115, 116]⟩]
      have uu : Up w ((w.alloc (.cells #[.int .i64 7, .int .i64 n] 25)).alloc (.cells #[.string ⟨#[114, 111, 111, 116]⟩, .string ⟨#[107, 105, 100]⟩, .string ⟨#[116, 119, 105, 99, 101]⟩, .string ⟨#[111, 114, 100, 101, 114]⟩, .string ⟨#[100, 101, 101, 112]⟩, .string ⟨#[102, 101, 119]⟩, .string ⟨#[108, 111, 115, 116]⟩] 9)) := ((Up.refl w).alloc _).alloc _
      have e0 : ((w.alloc (.cells #[.int .i64 7, .int .i64 n] 25)).alloc (.cells #[.string ⟨#[114, 111, 111, 116]⟩, .string ⟨#[107, 105, 100]⟩, .string ⟨#[116, 119, 105, 99, 101]⟩, .string ⟨#[111, 114, 100, 101, 114]⟩, .string ⟨#[100, 101, 101, 112]⟩, .string ⟨#[102, 101, 119]⟩, .string ⟨#[108, 111, 115, 116]⟩] 9)).drew.cell? ⟨w.heap.size, 0, none⟩ = some (.int .i64 7) := kA.cell 0
      have e1 : ((w.alloc (.cells #[.int .i64 7, .int .i64 n] 25)).alloc (.cells #[.string ⟨#[114, 111, 111, 116]⟩, .string ⟨#[107, 105, 100]⟩, .string ⟨#[116, 119, 105, 99, 101]⟩, .string ⟨#[111, 114, 100, 101, 114]⟩, .string ⟨#[100, 101, 101, 112]⟩, .string ⟨#[102, 101, 119]⟩, .string ⟨#[108, 111, 115, 116]⟩] 9)).drew.cell? ⟨w.heap.size, 1, none⟩ = some (.int .i64 n) := kA.cell 1
      have e2 : ((w.alloc (.cells #[.int .i64 7, .int .i64 n] 25)).alloc (.cells #[.string ⟨#[114, 111, 111, 116]⟩, .string ⟨#[107, 105, 100]⟩, .string ⟨#[116, 119, 105, 99, 101]⟩, .string ⟨#[111, 114, 100, 101, 114]⟩, .string ⟨#[100, 101, 101, 112]⟩, .string ⟨#[102, 101, 119]⟩, .string ⟨#[108, 111, 115, 116]⟩] 9)).drew.cell? ⟨w.heap.size + 1, 6, none⟩ = some (.string ⟨#[108, 111, 115, 116]⟩) := kS.cell 6
      have hz1 : ¬ 9223372036854775807 < (ByteArray.mk #[108, 111, 115, 116]).size + (ByteArray.mk #[32]).size := by decide
      have hz2 := size_ok (a := ⟨#[108, 111, 115, 116]⟩) (by decide) hs
      have hz3 : ¬ 9223372036854775807 < 5 + (itoaS n).size := by omega
      have hz4 : ¬ 9223372036854775807 < (ByteArray.mk #[108, 111, 115, 116, 32]).size + (itoaS n).size := by have : (ByteArray.mk #[108, 111, 115, 116, 32]).size = 5 := rfl; omega
      have hz5 : 5 + (itoaS n).size ≤ 9223372036854775807 := by omega
      have hz6 : ¬ 9223372036854775807 < 4 + 1 + (itoaS n).size := by omega
      go_enter Tryd.func6, Tryd.ntmps6
      go_wp2_with (go_at_call 9; refine (within_any _ _ _ _).mono ?_; rintro e w' ⟨rfl, rfl⟩)
      go_region_held3 (fun W => W.cell? ⟨w.heap.size, 0, none⟩ = some (.int .i64 7) ∧ W.cell? ⟨w.heap.size, 1, none⟩ = some (.int .i64 n) ∧ W.cell? ⟨w.heap.size + 1, 6, none⟩ = some (.string ⟨#[108, 111, 115, 116]⟩)) (first | with_reducible exact ⟨e0, e1, e2⟩ | with_reducible exact ⟨f0, f1, f2⟩) (first | (go_at_call 10; (refine (c_format n _ h0 h1 (tab_up htab uu.drew)).mono ?_); rintro e w1 ⟨rfl, u⟩; have f0 := (u.cell (cell_lt e0)).trans e0; have f1 := (u.cell (cell_lt e1)).trans e1; have f2 := (u.cell (cell_lt e2)).trans e2))
      all_goals
        go_wp2_with fail
        go_ret
        exact ⟨by rw [H.out]; first | done | rfl, uu.drew.trans u⟩
set_option maxRecDepth 100000 in
set_option maxHeartbeats 4000000 in
theorem w0_FnExactFaultText (k n : Int) (w : World) (h0 : -9223372036854775808 ≤ n) (h1 : n ≤ 9223372036854775807) (htab : Lib.TabIs Tryd.prog w "internal/strconv.uint64pow10" .u64 Lib.pow10Tab) :
    Calls Tryd.prog 3 #[.agg #[.int .i64 k, .int .i64 n]] w fun e w' => e = .returned (.bool true) ∧ Up w w' := by
  have kA := Bk.new w 23 #[.int .i64 k, .int .i64 n]
  have uu : Up w (w.alloc (.cells #[.int .i64 k, .int .i64 n] 23)) := (Up.refl w).alloc _
  go_enter Tryd.func3, Tryd.ntmps3
  go_wp2_with fail
  refine (c_toFault k n _).mono ?_
  rintro e w1 ⟨rfl, u⟩
  replace uu := uu.trans u
  replace kA := kA.up u
  clear u
  go_wp2_with fail
  refine (c_specFaultText k n _ h0 h1).mono ?_
  rintro e w2 ⟨rfl, u⟩
  replace uu := uu.trans u
  replace kA := kA.up u
  clear u
  have g0 : w2.cell? ⟨w.heap.size, 0, none⟩ = some (.int .i64 k) := kA.cell 0
  have g1 : w2.cell? ⟨w.heap.size, 1, none⟩ = some (.int .i64 n) := kA.cell 1
  go_wp2_with fail
  refine (c_toFault k n _).mono ?_
  rintro e w3 ⟨rfl, u⟩
  replace uu := uu.trans u
  clear u
  go_wp2_with fail
  refine (c_implFaultText k n _ h0 h1 (tab_up htab uu)).mono ?_
  rintro e w4 ⟨rfl, u⟩
  replace uu := uu.trans u
  clear u
  go_wp2_with fail
  go_ret
  exact ⟨rfl, uu⟩
end Go.Proofs.YtidfeipilleafabDoor
