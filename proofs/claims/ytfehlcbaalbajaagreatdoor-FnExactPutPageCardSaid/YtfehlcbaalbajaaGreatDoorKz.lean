/-
  The reference's keys: l02Put, PutSubs, KeyOf.
-/
import Derived.Test.YtfehlcbaalbajaaGreatDoorKy
namespace Go.Proofs.YtfehlcbaalbajaaGreatDoor
open Go.RowKit
set_option linter.unusedVariables false
set_option linter.unusedSimpArgs false

theorem subB_size {s : ByteArray} (h : subB s = true) : 1 ≤ s.size ∧ s.size ≤ 24 := by simpa [subB] using h
theorem subsP_of {l : List ByteArray} (h : subsB l = true) : SubsP l := of_decide_eq_true h
theorem keys_len {l : List ByteArray} (h : ∀ x ∈ l, subB x = true) : (l.flatMap subKeyL).length ≤ 57 * l.length := by
  induction l with
  | nil => simp
  | cons x l ih =>
    have h1 := subKeyL_len x
    have h2 := subB_size (h x List.mem_cons_self)
    have h3 := ih (fun y hy => h y (List.mem_cons_of_mem _ hy))
    show (subKeyL x ++ l.flatMap subKeyL).length ≤ 57 * (l.length + 1)
    rw [List.length_append]; omega
theorem subs_all {l : List ByteArray} (h : SubsP l) : ∀ x ∈ l, subB x = true := fun x hx => by
  obtain ⟨i, hi, rfl⟩ := List.getElem_of_mem hx
  exact h.2 i hi
theorem keys_snoc (l : List ByteArray) {k : Nat} (h : k < l.length) : (l.take (k + 1)).flatMap subKeyL = (l.take k).flatMap subKeyL ++ subKeyL l[k] := by
  rw [List.take_succ_eq_append_getElem h, List.flatMap_append]
  simp
theorem putSubsL_len (l : List ByteArray) : (putSubsL l).length ≤ 228 := by
  unfold putSubsL
  split
  · rename_i h
    have h1 := subsP_of h
    have := keys_len (subs_all h1)
    have := h1.1
    omega
  · simp
theorem nameB_size {s : ByteArray} (h : nameB s = true) : 1 ≤ s.size ∧ s.size ≤ 8 := by
  have := of_decide_eq_true h
  exact ⟨this.1, this.2.1⟩
theorem keyOfL_len (n : ByteArray) (l : List ByteArray) : (keyOfL n l).length ≤ 237 := by
  unfold keyOfL
  split
  · rename_i h
    unfold placeB at h
    have h1 := nameB_size (Bool.and_eq_true _ _ ▸ h).1
    have h2 := putSubsL_len l
    have h3 := slen n
    simp; omega
  · simp
set_option maxHeartbeats 4000000 in
theorem c_l02Put (xs : List ByteArray) (A : Option Addr) (c : Nat) (w : World) (h : SRW shS w A c xs) (hp : SubsP xs) :
    Calls Tryz.prog 216 #[.slice A xs.length c] w (RetV (.string (bs (xs.flatMap subKeyL))) w) := by
  have hlen := h.len_le
  have HP := Lib.hid hp
  clear hp
  go_enter Tryz.func216, Tryz.ntmps216
  go_wp2_with fail
  go_loopw [4, 3] (fun i t wr => ∃ k : Nat, k ≤ xs.length ∧ i = .int .i64 k ∧ t = .string (bs ((xs.take k).flatMap subKeyL)) ∧ Up w wr) (fun i _ _ => xs.length - (intOf i).toNat)
  case atStart => exact ⟨0, Nat.zero_le _, rfl, rfl, Up.refl _⟩
  case round =>
    obtain ⟨k, hk, rfl, rfl, hu⟩ := hrel
    by_cases hlt : k < xs.length
    · obtain ⟨g, off, rfl, _, _, hc, hb1⟩ := (h.up good_S hu).at_S hlt
      have hs := subB_size (HP.out.2 k hlt)
      have hkl := subKeyL_len xs[k]
      have hl1 := keys_len (l := xs.take k) (fun x hx => subs_all HP.out x (List.mem_of_mem_take hx))
      have h4 := HP.out.1
      rw [List.length_take] at hl1
      have hsn : bs ((xs.take (k + 1)).flatMap subKeyL) = bs ((xs.take k).flatMap subKeyL) ++ bs (subKeyL xs[k]) := by rw [keys_snoc xs hlt, bs_append]
      have HS := Lib.hid hsn
      have hg : ¬ 9223372036854775807 < (bs ((xs.take k).flatMap subKeyL)).size + (bs (subKeyL xs[k])).size := by rw [bs_size, bs_size]; omega
      have ck := fun W => c_l02Key xs[k] W (by omega)
      generalize bs ((xs.take k).flatMap subKeyL) = T at *
      generalize bs (subKeyL xs[k]) = K at *
      have CK := Lib.hid ck
      clear ck hsn hl1 hkl hs h4
      go_wp2_with fail
      refine (CK.out _).mono ?_
      rintro e w1 ⟨rfl, u1⟩
      go_wp2_with fail
      go_roundw
      case rel => exact ⟨k + 1, by omega, by go_num, by rw [HS.out], hu.trans u1⟩
      case measure => simp [intOf]; omega
    · have ht : xs.take k = xs := List.take_of_length_le (by omega)
      rw [ht]
      clear ht
      go_wp2_with fail
      go_ret
      exact ⟨rfl, hu⟩
end Go.Proofs.YtfehlcbaalbajaaGreatDoor
