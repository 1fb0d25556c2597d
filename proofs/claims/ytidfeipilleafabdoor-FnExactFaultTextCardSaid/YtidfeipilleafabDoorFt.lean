/-
  FaultText: the program's and the reference's give one string.
-/
import Derived.Test.YtidfeipilleafabDoorRows
import Derived.Test.YtidfeipilleafabDoorRep2
import Derived.Test.YtidfeipilleafabDoorBas
import Derived.Test.YtidfeipilleafabDoorShelf
import Derived.Lib.ConvBytes
import Derived.Lib.SlBytesRow
import Derived.Lib.LaidTab
import Derived.Lib.ItoaLen
import Derived.Deep.RegionHeld3
namespace Go.Proofs.YtidfeipilleafabDoor
open Go.RowKit
set_option linter.unusedVariables false
set_option linter.unusedSimpArgs false

def digit (k : Nat) : ByteArray := ⟨#[UInt8.ofNat (48 + k % 10)]⟩
def decS (k : Nat) : ByteArray := ⟨(Lib.decDigits k).toArray⟩
theorem decS_small {k : Nat} (h : k < 10) : decS k = digit k := by
  unfold decS digit
  rw [Lib.decDigits, dif_pos h, Nat.mod_eq_of_lt h]
theorem decS_more {k : Nat} (h : ¬ k < 10) : decS k = decS (k / 10) ++ digit k := by
  unfold decS digit
  rw [Lib.decDigits, dif_neg h]
  apply ByteArray.ext
  simp [ByteArray.data_append]
theorem decS_size {k : Nat} (h : k ≤ 9223372036854775808) : (decS k).size ≤ 20 := by
  show (Lib.decDigits k).toArray.size ≤ 20
  rw [List.size_toArray, Lib.decDigits_length]
  exact Lib.nDigits_le20 k (by omega)
def itoaS (n : Int) : ByteArray := ⟨(Lib.itoa n).toArray⟩
theorem itoaS_pos (k : Nat) : itoaS (k : Int) = decS k := by
  unfold itoaS decS Lib.itoa
  rw [if_neg (by omega), Int.toNat_natCast]
theorem itoaS_neg {k : Nat} (h : 0 < k) : itoaS (-(k : Int)) = ⟨#[45]⟩ ++ decS k := by
  unfold itoaS decS Lib.itoa
  rw [if_pos (by omega), Int.natAbs_neg, Int.natAbs_natCast]
  apply ByteArray.ext
  simp [ByteArray.data_append]
theorem tab_up {w w' : World} {name : String} {k : IntKind} {zs : List Int} (h : Lib.TabIs Tryd.prog w name k zs) (u : Up w w') : Lib.TabIs Tryd.prog w' name k zs := by
  unfold Lib.TabIs World.var? at h ⊢
  cases hg : Tryd.prog.globalNamed name with
  | none => simp [hg] at h
  | some g =>
    simp only [hg, Option.bind_some] at h ⊢
    have hlt : g < w.heap.size := by
      rcases Nat.lt_or_ge g w.heap.size with h1 | h1
      · exact h1
      · rw [Array.getElem?_eq_none h1] at h; simp at h
    rw [u.block g hlt]
    exact h
theorem conv1 (k : Nat) (w : World) : (convert 32 9 (.slice (some ⟨w.heap.size, 0, none⟩) 1 1)).run Tryd.prog (w.alloc (.cells #[.int .u8 (48 + (k : Int) % 10)] 5)) = .ok (.string (digit k)) (w.alloc (.cells #[.int .u8 (48 + (k : Int) % 10)] 5)) := by
  have hb : Lib.Bytes (w.alloc (.cells #[.int .u8 (48 + (k : Int) % 10)] 5)) w.heap.size 0 (digit k) := fun i hi => by
    obtain rfl : i = 0 := by have : i < 1 := hi; omega
    have := (Bk.new w 5 #[.int .u8 (48 + (k : Int) % 10)]).cell 0
    refine this.trans ?_
    have hm : (UInt8.ofNat (48 + k % 10)).toNat = 48 + k % 10 := by simp; omega
    show some (Value.int .u8 (48 + (k : Int) % 10)) = some (Value.int .u8 (((UInt8.ofNat (48 + k % 10)).toNat : Nat) : Int))
    rw [hm]
    congr 2
  exact Lib.run_convert_whole (P := Tryd.prog) _ 32 5 9 Tryd.underlying32 Tryd.underlying5 Tryd.underlying9 _ _ _ hb 1
set_option maxRecDepth 100000 in
set_option maxHeartbeats 4000000 in
theorem c_l21Below (k : Nat) : ∀ (w : World), k ≤ 9223372036854775808 → Calls Tryd.prog 11 #[.int .i64 (-(k : Int))] w (RetV (.string (decS k)) w) := by
  induction k using Nat.strongRecOn with
  | _ k ih =>
    intro w hk
    have hr : Int.tmod (-(k : Int)) 10 = -((k % 10 : Nat) : Int) := by
      rw [Int.neg_tmod]
      norm_cast
    have hq : Int.tdiv (-(k : Int)) 10 = -((k / 10 : Nat) : Int) := by
      rw [Int.neg_tdiv]
      norm_cast
    have hw : IntKind.i64.wrap ((48 : Int) + ((k % 10 : Nat) : Int)) = ((48 + k % 10 : Nat) : Int) := by rw [IntWalk.i64_in _ (by omega)]; omega
    have hc := conv1 k w
    by_cases h10 : k < 10
    · have H := Lib.hid (decS_small h10)
      have hgt : (-10 : Int) < -(k : Int) := by omega
      clear ih
      go_enter Tryd.func11, Tryd.ntmps11
      go_wp2
      go_ret
      exact ⟨by rw [H.out]; first | done | rfl, (Up.refl w).alloc _⟩
    · have H := Lib.hid (decS_more h10)
      have hgt : ¬ (-10 : Int) < -(k : Int) := by omega
      have ih1 : ∀ w : World, Calls Tryd.prog 11 #[.int .i64 (-((k : Int) / 10))] w (RetV (.string (decS (k / 10))) w) := fun w => by
        have := ih (k / 10) (by omega) w (by omega)
        simpa using this
      have hs := decS_size (k := k / 10) (by omega)
      have hs2 : ¬ 9223372036854775807 < (decS (k / 10)).size + (digit k).size := by have : (digit k).size = 1 := rfl; omega
      clear ih
      go_enter Tryd.func11, Tryd.ntmps11
      go_wp2_with (go_at_call 11; refine (ih1 _).mono ?_; rintro e w1 ⟨rfl, u⟩)
      go_ret
      exact ⟨by rw [H.out]; first | done | rfl, ((Up.refl w).alloc _).trans u⟩
set_option maxRecDepth 100000 in
set_option maxHeartbeats 4000000 in
theorem c_l21Dec (n : Int) (w : World) (h0 : -9223372036854775808 ≤ n) (h1 : n ≤ 9223372036854775807) : Calls Tryd.prog 8 #[.int .i64 n] w (RetV (.string (itoaS n)) w) := by
  by_cases hn : n < 0
  · obtain ⟨k, rfl⟩ : ∃ k : Nat, n = -(k : Int) := ⟨n.natAbs, by omega⟩
    have H := Lib.hid (itoaS_neg (k := k) (by omega))
    have hs := decS_size (k := k) (by omega)
    have hs2 : ¬ 9223372036854775807 < (ByteArray.mk #[45]).size + (decS k).size := by have : (ByteArray.mk #[45]).size = 1 := rfl; omega
    go_enter Tryd.func8, Tryd.ntmps8
    go_wp2_with (go_at_call 11; refine (c_l21Below k _ (by omega)).mono ?_; rintro e w1 ⟨rfl, u⟩)
    go_ret
    exact ⟨by rw [H.out]; first | done | rfl, u⟩
  · obtain ⟨k, rfl⟩ : ∃ k : Nat, n = (k : Int) := ⟨n.toNat, by omega⟩
    have H := Lib.hid (itoaS_pos k)
    have hw : IntKind.i64.wrap (-(k : Int)) = -(k : Int) := IntWalk.i64_in _ (by omega)
    go_enter Tryd.func8, Tryd.ntmps8
    go_wp2_with (go_at_call 11; refine (c_l21Below k _ (by omega)).mono ?_; rintro e w1 ⟨rfl, u⟩)
    go_ret
    exact ⟨by rw [H.out]; first | done | rfl, u⟩
theorem c_toFault (a b : Int) (w : World) : Calls Tryd.prog 5 #[.agg #[.int .i64 a, .int .i64 b]] w (RetV (.agg #[.int .i64 a, .int .i64 b]) w) := by
  go_enter Tryd.func5, Tryd.ntmps5
  go_wp2
  refine bodyPost_ret (v := .agg #[.int .i64 a, .int .i64 b]) (by simp [results, Tryd.results5, go_sem]) rfl ?_
  exact ⟨rfl, by repeat (first | exact Up.refl w | refine Up.alloc ?_ _)⟩
def ftWord (k : Int) : ByteArray := if k = 1 then ⟨#[114, 111, 111, 116]⟩ else if k = 2 then ⟨#[107, 105, 100]⟩ else if k = 3 then ⟨#[116, 119, 105, 99, 101]⟩ else if k = 4 then ⟨#[111, 114, 100, 101, 114]⟩ else if k = 5 then ⟨#[100, 101, 101, 112]⟩ else if k = 6 then ⟨#[102, 101, 119]⟩ else ⟨#[108, 111, 115, 116]⟩
def faultS (k n : Int) : ByteArray := if inB k 1 7 = true then ftWord k ++ ⟨#[32]⟩ ++ itoaS n else ⟨#[]⟩
end Go.Proofs.YtidfeipilleafabDoor
