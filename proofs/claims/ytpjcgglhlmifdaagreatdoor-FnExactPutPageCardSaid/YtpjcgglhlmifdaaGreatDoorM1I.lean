/-
  Shared: the length of the common beginning of two strings; both sides.
  The reference's bytes and short texts: l15Byte, l19Text.
  The format of a page, in plain words.
-/
import Derived.Test.YtpjcgglhlmifdaaGreatDoorM1C
import Derived.Test.YtpjcgglhlmifdaaGreatDoorM1B
import Derived.BigQuiet
import Derived.Deep.QuietTactic
import Derived.Test.YtpjcgglhlmifdaaGreatDoorM1Qa
namespace Go.Proofs.YtpjcgglhlmifdaaGreatDoor
open Go.RowKit
set_option linter.unusedVariables false
set_option linter.unusedSimpArgs false

def sharedL : List UInt8 → List UInt8 → Nat
  | x :: xs, y :: ys => if x = y then sharedL xs ys + 1 else 0
  | _, _ => 0
def sharedN (a b : ByteArray) : Nat := sharedL a.data.toList b.data.toList
theorem sharedL_le : ∀ (a b : List UInt8), sharedL a b ≤ a.length ∧ sharedL a b ≤ b.length
  | [], _ => by simp [sharedL]
  | _ :: _, [] => by simp [sharedL]
  | x :: xs, y :: ys => by
    have := sharedL_le xs ys
    unfold sharedL
    split <;> simp <;> omega
theorem sharedN_le (a b : ByteArray) : sharedN a b ≤ a.size ∧ sharedN a b ≤ b.size := by
  have := sharedL_le a.data.toList b.data.toList
  rwa [slen, slen] at this
theorem sharedL_eq : ∀ (k : Nat) (a b : List UInt8), k ≤ a.length → k ≤ b.length → (∀ i (h1 : i < a.length) (h2 : i < b.length), i < k → a[i] = b[i]) → (∀ (h1 : k < a.length) (h2 : k < b.length), a[k] ≠ b[k]) → sharedL a b = k
  | 0, a, b, _, _, _, hne => by
    cases a with
    | nil => rfl
    | cons x xs =>
      cases b with
      | nil => rfl
      | cons y ys =>
        have := hne (by simp) (by simp)
        simp only [List.getElem_cons_zero] at this
        unfold sharedL
        rw [if_neg this]
  | k + 1, a, b, ha, hb, he, hne => by
    cases a with
    | nil => simp at ha
    | cons x xs =>
      cases b with
      | nil => simp at hb
      | cons y ys =>
        have h0 := he 0 (by simp) (by simp) (by omega)
        simp only [List.getElem_cons_zero] at h0
        unfold sharedL
        rw [if_pos h0]
        congr 1
        refine sharedL_eq k xs ys (by simpa using ha) (by simpa using hb) (fun i h1 h2 hi => ?_) (fun h1 h2 => ?_)
        · have := he (i + 1) (by simpa using h1) (by simpa using h2) (by omega)
          simpa using this
        · have := hne (by simpa using h1) (by simpa using h2)
          simpa using this
theorem sharedN_eq {a b : ByteArray} {k : Nat} (ha : k ≤ a.size) (hb : k ≤ b.size) (he : ∀ i (h1 : i < a.size) (h2 : i < b.size), i < k → a[i] = b[i]) (hne : ∀ (h1 : k < a.size) (h2 : k < b.size), a[k] ≠ b[k]) : sharedN a b = k :=
  sharedL_eq k _ _ (by rw [slen]; exact ha) (by rw [slen]; exact hb) (fun i h1 h2 hi => he i (by rw [slen] at h1; exact h1) (by rw [slen] at h2; exact h2) hi) (fun h1 h2 => hne (by rw [slen] at h1; exact h1) (by rw [slen] at h2; exact h2))
set_option maxRecDepth 100000 in
set_option maxHeartbeats 8000000 in
theorem c_implShared (a b : ByteArray) (w : World) (ha : a.size ≤ 1048576) (hb : b.size ≤ 1048576) : Calls Tryz.prog 85 #[.string a, .string b] w (RetV (.int .i64 (sharedN a b)) w) := by
  go_enter Tryz.func85, Tryz.ntmps85
  go_wp2_with fail
  go_loopw [5] (fun i wr => ∃ k : Nat, i = .int .i64 k ∧ k ≤ a.size ∧ k ≤ b.size ∧ Hid (∀ i (h1 : i < a.size) (h2 : i < b.size), i < k → a[i] = b[i]) ∧ Up w wr) (fun i _ => a.size - (intOf i).toNat)
  case atStart => exact ⟨0, rfl, Nat.zero_le _, Nat.zero_le _, fun i h1 h2 hi => absurd hi (by omega), Up.refl _⟩
  case round =>
    obtain ⟨k, rfl, hka, hkb, HE, hu⟩ := hrel
    by_cases h1 : k < a.size
    · by_cases h2 : k < b.size
      · have i0 : (0 : Int) ≤ (k : Int) := by omega
        have i1 : (k : Int) < (a.size : Int) := by omega
        have i2 : (k : Int) < (b.size : Int) := by omega
        by_cases he : a[k] = b[k]
        · have HN : Hid (∀ i (h1 : i < a.size) (h2 : i < b.size), i < k + 1 → a[i] = b[i]) := fun i h1 h2 hi => by
            by_cases e : i = k
            · subst e; exact he
            · exact HE.out i h1 h2 (by omega)
          have hbe : ((a[k].toNat : Int) == (b[k].toNat : Int)) = true := by rw [he]; simp
          have hbe2 : (a[k].toNat : Int) = (b[k].toNat : Int) := u8_eq he
          clear he
          go_wp2_with fail
          refine wp_region_up (by kernel_rfl) (by kernel_rfl) ?_
          repeat (go_big_quiet_step (fail))
          refine wpQuiet_nil ?_
          rintro _ ⟨⟨w1, u1⟩, rfl⟩
          go_wp2_with fail
          go_roundw
          case rel => exact ⟨k + 1, by go_num, by omega, by omega, HN, hu.trans u1⟩
          case measure => simp [intOf]; omega
        · have HS : Hid (sharedN a b = k) := sharedN_eq hka hkb HE.out (fun _ _ => he)
          have hbe : ((a[k].toNat : Int) == (b[k].toNat : Int)) = false := by simpa using u8_ne he
          have hbe2 := u8_ne he
          clear he
          go_wp2_with fail
          refine wp_region_up (by kernel_rfl) (by kernel_rfl) ?_
          repeat (go_big_quiet_step (fail))
          refine wpQuiet_nil ?_
          rintro _ ⟨⟨w1, u1⟩, rfl⟩
          go_wp2_with fail
          go_ret
          exact ⟨by rw [HS.out]; first | done | rfl, hu.trans u1⟩
      · have HS : Hid (sharedN a b = k) := sharedN_eq hka hkb HE.out (fun _ h => absurd h h2)
        have i1 : (k : Int) < (a.size : Int) := by omega
        have d2 : decide ((k : Int) < (b.size : Int)) = false := by simp; omega
        go_wp2_with fail
        refine wp_region_up (by kernel_rfl) (by kernel_rfl) ?_
        repeat (go_big_quiet_step (fail))
        refine wpQuiet_nil ?_
        rintro _ ⟨⟨w1, u1⟩, rfl⟩
        go_wp2_with fail
        go_ret
        exact ⟨by rw [HS.out]; first | done | rfl, hu.trans u1⟩
    · have HS : Hid (sharedN a b = k) := sharedN_eq hka hkb HE.out (fun h _ => absurd h h1)
      have d1 : decide ((k : Int) < (a.size : Int)) = false := by simp; omega
      go_wp2_with fail
      refine wp_region_up (by kernel_rfl) (by kernel_rfl) ?_
      repeat (go_big_quiet_step (fail))
      refine wpQuiet_nil ?_
      rintro _ ⟨⟨w1, u1⟩, rfl⟩
      go_wp2_with fail
      go_ret
      exact ⟨by rw [HS.out]; first | done | rfl, hu.trans u1⟩
set_option maxRecDepth 100000 in
set_option maxHeartbeats 8000000 in
theorem c_specShared (a b : ByteArray) (w : World) (ha : a.size ≤ 1048576) (hb : b.size ≤ 1048576) : Calls Tryz.prog 81 #[.string a, .string b] w (RetV (.int .i64 (sharedN a b)) w) := by
  go_enter Tryz.func81, Tryz.ntmps81
  go_wp2_with fail
  go_loopw [5] (fun i wr => ∃ k : Nat, i = .int .i64 k ∧ k ≤ a.size ∧ k ≤ b.size ∧ Hid (∀ i (h1 : i < a.size) (h2 : i < b.size), i < k → a[i] = b[i]) ∧ Up w wr) (fun i _ => a.size - (intOf i).toNat)
  case atStart => exact ⟨0, rfl, Nat.zero_le _, Nat.zero_le _, fun i h1 h2 hi => absurd hi (by omega), Up.refl _⟩
  case round =>
    obtain ⟨k, rfl, hka, hkb, HE, hu⟩ := hrel
    by_cases h1 : k < a.size
    · by_cases h2 : k < b.size
      · have i0 : (0 : Int) ≤ (k : Int) := by omega
        have i1 : (k : Int) < (a.size : Int) := by omega
        have i2 : (k : Int) < (b.size : Int) := by omega
        by_cases he : a[k] = b[k]
        · have HN : Hid (∀ i (h1 : i < a.size) (h2 : i < b.size), i < k + 1 → a[i] = b[i]) := fun i h1 h2 hi => by
            by_cases e : i = k
            · subst e; exact he
            · exact HE.out i h1 h2 (by omega)
          have hbe : ((a[k].toNat : Int) == (b[k].toNat : Int)) = true := by rw [he]; simp
          have hbe2 : (a[k].toNat : Int) = (b[k].toNat : Int) := u8_eq he
          clear he
          go_wp2_with fail
          refine wp_region_up (by kernel_rfl) (by kernel_rfl) ?_
          repeat (go_big_quiet_step (fail))
          refine wpQuiet_nil ?_
          rintro _ ⟨⟨w1, u1⟩, rfl⟩
          go_wp2_with fail
          go_roundw
          case rel => exact ⟨k + 1, by go_num, by omega, by omega, HN, hu.trans u1⟩
          case measure => simp [intOf]; omega
        · have HS : Hid (sharedN a b = k) := sharedN_eq hka hkb HE.out (fun _ _ => he)
          have hbe : ((a[k].toNat : Int) == (b[k].toNat : Int)) = false := by simpa using u8_ne he
          have hbe2 := u8_ne he
          clear he
          go_wp2_with fail
          refine wp_region_up (by kernel_rfl) (by kernel_rfl) ?_
          repeat (go_big_quiet_step (fail))
          refine wpQuiet_nil ?_
          rintro _ ⟨⟨w1, u1⟩, rfl⟩
          go_wp2_with fail
          go_ret
          exact ⟨by rw [HS.out]; first | done | rfl, hu.trans u1⟩
      · have HS : Hid (sharedN a b = k) := sharedN_eq hka hkb HE.out (fun _ h => absurd h h2)
        have i1 : (k : Int) < (a.size : Int) := by omega
        have d2 : decide ((k : Int) < (b.size : Int)) = false := by simp; omega
        go_wp2_with fail
        refine wp_region_up (by kernel_rfl) (by kernel_rfl) ?_
        repeat (go_big_quiet_step (fail))
        refine wpQuiet_nil ?_
        rintro _ ⟨⟨w1, u1⟩, rfl⟩
        go_wp2_with fail
        go_ret
        exact ⟨by rw [HS.out]; first | done | rfl, hu.trans u1⟩
    · have HS : Hid (sharedN a b = k) := sharedN_eq hka hkb HE.out (fun h _ => absurd h h1)
      have d1 : decide ((k : Int) < (a.size : Int)) = false := by simp; omega
      go_wp2_with fail
      refine wp_region_up (by kernel_rfl) (by kernel_rfl) ?_
      repeat (go_big_quiet_step (fail))
      refine wpQuiet_nil ?_
      rintro _ ⟨⟨w1, u1⟩, rfl⟩
      go_wp2_with fail
      go_ret
      exact ⟨by rw [HS.out]; first | done | rfl, hu.trans u1⟩
end Go.Proofs.YtpjcgglhlmifdaaGreatDoor

namespace Go.Proofs.YtpjcgglhlmifdaaGreatDoor
open Go.RowKit
set_option linter.unusedVariables false
set_option linter.unusedSimpArgs false

set_option maxHeartbeats 4000000 in
theorem c_l15Byte (n : Nat) (w : World) (hn : n ≤ 255) : Calls Tryz.prog 80 #[.int .i64 (n : Int)] w (RetV (.string (bs [UInt8.ofNat n])) w) := by
  obtain ⟨c, hc⟩ : ∃ c, c = UInt8.ofNat n := ⟨_, rfl⟩
  have hcn : (n : Int) = (c.toNat : Int) := by rw [hc, UInt8.toNat_ofNat']; omega
  rw [← hc]
  have hw : (n : Int) % 256 = (n : Int) := by omega
  have hcv : (convert 136 9 (.slice (some ⟨w.heap.size, 0, none⟩) 1 1)).run Tryz.prog (w.alloc (.cells #[.int .u8 (n : Int)] 5)) = .ok (.string (bs [c])) (w.alloc (.cells #[.int .u8 (n : Int)] 5)) := conv_at _ _ hcn _ _ (Bk.new _ _ _)
  have HC := Lib.hid hcn
  clear hcn hc
  go_enter Tryz.func80, Tryz.ntmps80
  go_wp2_with fail
  go_ret
  exact ⟨rfl, (Up.refl w).alloc _⟩
def shortL (s : ByteArray) : List UInt8 := UInt8.ofNat s.size :: s.data.toList
end Go.Proofs.YtpjcgglhlmifdaaGreatDoor

namespace Go.Proofs.YtpjcgglhlmifdaaGreatDoor
open Go.RowKit
set_option linter.unusedVariables false
set_option linter.unusedSimpArgs false

def lastP (l : List ByteArray) (k : Nat) : ByteArray := if h : 0 < k ∧ k ≤ l.length then l[k - 1]'(by omega) else ⟨#[]⟩
def keyPart (last key : ByteArray) : List UInt8 := UInt8.ofNat (sharedN last key) :: UInt8.ofNat (key.size - sharedN last key) :: key.data.toList.drop (sharedN last key)
def valPart (x : TPage) (k : Nat) : List UInt8 := if x.1 = true then (if h : k < x.2.2.1.length then shortL x.2.2.1[k] else []) else []
def pageH (x : TPage) : List UInt8 := [if x.1 = true then 1 else 2, UInt8.ofNat x.2.1.length]
def pageK (x : TPage) : Nat → List UInt8
  | 0 => pageH x
  | k + 1 => pageK x k ++ (if h : k < x.2.1.length then keyPart (lastP x.2.1 k) x.2.1[k] ++ valPart x k else [])
def kidsL (l : List Int) : List UInt8 := l.map fun n => UInt8.ofNat n.toNat
def pageL (x : TPage) : List UInt8 := pageK x x.2.1.length ++ kidsL x.2.2.2
def pageT (x : TPage) : ByteArray := if pageB x = true then bs (pageL x ++ List.replicate (1700 - (pageL x).length) 0) else ⟨#[]⟩
theorem lastP_zero (l : List ByteArray) : lastP l 0 = ⟨#[]⟩ := by unfold lastP; rw [dif_neg (by omega)]
theorem lastP_succ (l : List ByteArray) {k : Nat} (h : k < l.length) : lastP l (k + 1) = l[k] := by
  unfold lastP
  rw [dif_pos (by omega)]
  simp
theorem pageK_succ (x : TPage) {k : Nat} (h : k < x.2.1.length) : pageK x (k + 1) = pageK x k ++ (keyPart (lastP x.2.1 k) x.2.1[k] ++ valPart x k) := by
  conv => lhs; unfold pageK
  rw [dif_pos h]
theorem subKey_len {s : ByteArray} (h : subB s = true) : (subKeyL s).length ≤ 51 := by
  have h2 := subB_size h
  unfold subKeyL
  split
  · rw [List.length_cons, beT_len]; omega
  · have := escL_len s.data.toList
    rw [slen] at this
    simp; omega
theorem keys_len51 {l : List ByteArray} (h : ∀ x ∈ l, subB x = true) : (l.flatMap subKeyL).length ≤ 51 * l.length := by
  induction l with
  | nil => simp
  | cons x l ih =>
    have h1 := subKey_len (h x List.mem_cons_self)
    have h3 := ih (fun y hy => h y (List.mem_cons_of_mem _ hy))
    show (subKeyL x ++ l.flatMap subKeyL).length ≤ 51 * (l.length + 1)
    rw [List.length_append]; omega
theorem keyB_size {k : ByteArray} (h : keyB k = true) : k.size ≤ 213 := by
  have hl := slen k
  unfold keyB at h
  cases hp : placeOf k with
  | none => rw [hp] at h; cases h
  | some p =>
    unfold placeOf at hp
    split at hp
    · rename_i hc
      obtain ⟨h1, h2⟩ := hc
      rw [Option.map_eq_some_iff] at hp
      obtain ⟨l, h3, _⟩ := hp
      obtain ⟨h4, h5⟩ := getSubs_some h3
      have h6 := subsP_of h4
      have h7 := keys_len51 (subs_all h6)
      rw [h5, List.length_drop] at h7
      have h8 := nameB_size h2
      have h9 := bs_size (headL k.data.toList)
      have := h6.1
      omega
    · cases hp
theorem keyPart_len (a b : ByteArray) : (keyPart a b).length ≤ 2 + b.size := by
  unfold keyPart
  have := slen b
  simp only [List.length_cons, List.length_drop]
  omega
theorem page_keys {x : TPage} (h : pageB x = true) : KeysP x.2.1 := by
  unfold pageB at h
  simp only [Bool.and_eq_true] at h
  exact of_decide_eq_true h.1
theorem page_len {x : TPage} (h : pageB x = true) : x.2.1.length ≤ 6 := by
  rcases Nat.lt_or_ge 6 x.2.1.length with h6 | h6
  · rw [page_long (by omega)] at h; cases h
  · exact h6
theorem page_vals {x : TPage} (h : pageB x = true) (hl : x.1 = true) : x.2.2.1.length = x.2.1.length ∧ (∀ k (hk : k < x.2.2.1.length), x.2.2.1[k].size ≤ 64) ∧ x.2.2.2.length = 0 := by
  unfold pageB at h
  simp only [Bool.and_eq_true, if_pos hl] at h
  have h2 := h.2
  simp only [leafB, Bool.and_eq_true, decide_eq_true_eq, Bool.not_eq_true'] at h2
  refine ⟨h2.1.1.2, fun k hk => ?_, h2.2⟩
  rcases Nat.lt_or_ge 64 x.2.2.1[k].size with h6 | h6
  · rw [long_t hk h6] at h2; exact absurd h2.1.2 (by simp)
  · exact h6
theorem page_kids {x : TPage} (h : pageB x = true) : x.2.2.2.length ≤ 6 ∧ ∀ k (hk : k < x.2.2.2.length), 1 ≤ x.2.2.2[k] ∧ x.2.2.2[k] ≤ 64 := by
  cases hl : x.1
  · unfold pageB at h
    simp only [Bool.and_eq_true] at h
    have h2 := h.2
    rw [if_neg (by rw [hl]; decide)] at h2
    simp only [forkB, Bool.and_eq_true, Bool.not_eq_true'] at h2
    have h3 := inB_t.1 h2.1.1.1
    refine ⟨by omega, fun k hk => ?_⟩
    cases hb : inB x.2.2.2[k] 1 64
    · rw [kid_t hk hb] at h2; exact absurd h2.2 (by decide)
    · exact inB_t.1 hb
  · have := (page_vals h hl).2.2
    exact ⟨by omega, fun k hk => absurd hk (by omega)⟩
theorem valPart_len {x : TPage} (h : pageB x = true) (k : Nat) : (valPart x k).length ≤ 65 := by
  unfold valPart
  split
  · rename_i hl
    split
    · rename_i hk
      have := (page_vals h hl).2.1 k hk
      have h2 := slen x.2.2.1[k]
      simp only [shortL, List.length_cons]
      omega
    · simp
  · simp
theorem pageK_len {x : TPage} (h : pageB x = true) : ∀ k, k ≤ x.2.1.length → (pageK x k).length ≤ 2 + 280 * k
  | 0, _ => by unfold pageK pageH; simp
  | k + 1, hk => by
    have ih := pageK_len h k (by omega)
    have h1 := keyB_size (page_keys h k (by omega)).1
    have h2 := keyPart_len (lastP x.2.1 k) x.2.1[k]
    have h3 := valPart_len h k
    rw [pageK_succ x (by omega), List.length_append, List.length_append]
    omega
theorem pageL_len {x : TPage} (h : pageB x = true) : (pageL x).length ≤ 1700 := by
  have h1 := pageK_len h x.2.1.length (Nat.le_refl _)
  have h2 := page_len h
  have h3 := (page_kids h).1
  unfold pageL kidsL
  rw [List.length_append, List.length_map]
  omega
theorem lastP_size (l : List ByteArray) (hz : ∀ s ∈ l, s.size ≤ 1048576) (k : Nat) : (lastP l k).size ≤ 1048576 := by
  unfold lastP
  split
  · exact hz _ (List.getElem_mem _)
  · exact Nat.zero_le _
theorem c_byteI (q : Int) (n : Nat) (hq : q = (n : Int)) (hn : n ≤ 255) (w : World) : Calls Tryz.prog 80 #[.int .i64 q] w (RetV (.string (bs [UInt8.ofNat n])) w) := by subst hq; exact c_l15Byte n w hn
theorem bs_app (a b : List UInt8) : bs a ++ bs b = bs (a ++ b) := (bs_append a b).symm
theorem zs_bs (n : Nat) : zs n = bs (List.replicate n 0) := rfl
set_option maxRecDepth 100000 in
set_option maxHeartbeats 16000000 in
theorem c_specPutPage (v : Value) (x : TPage) (w : World) (h : AV shPage w v x) (hz : ∀ s ∈ x.2.1, s.size ≤ 1048576) : Calls Tryz.prog 41 #[v] w (RetV (.string (pageT x)) w) := by
  obtain ⟨cs, rfl, h⟩ := h
  obtain ⟨A1, c1, A2, c2, A3, c3, rfl, b1, b2, b3⟩ := openPage h
  clear h
  have l1 := b1.len_le
  have l2 := b2.len_le
  have l3 := b3.len_le
  have kA := Bk.new w 88 #[.bool x.1, .slice A1 x.2.1.length c1, .slice A2 x.2.2.1.length c2, .slice A3 x.2.2.2.length c3]
  have uA : Up w (w.alloc (.cells #[.bool x.1, .slice A1 x.2.1.length c1, .slice A2 x.2.2.1.length c2, .slice A3 x.2.2.2.length c3] 88)) := (Up.refl w).alloc _
  have g0 : (w.alloc (.cells #[.bool x.1, .slice A1 x.2.1.length c1, .slice A2 x.2.2.1.length c2, .slice A3 x.2.2.2.length c3] 88)).cell? ⟨w.heap.size, 0, none⟩ = some (.bool x.1) := kA.cell 0
  have g1 : (w.alloc (.cells #[.bool x.1, .slice A1 x.2.1.length c1, .slice A2 x.2.2.1.length c2, .slice A3 x.2.2.2.length c3] 88)).cell? ⟨w.heap.size, 1, none⟩ = some (.slice A1 x.2.1.length c1) := kA.cell 1
  have g2 : (w.alloc (.cells #[.bool x.1, .slice A1 x.2.1.length c1, .slice A2 x.2.2.1.length c2, .slice A3 x.2.2.2.length c3] 88)).cell? ⟨w.heap.size, 2, none⟩ = some (.slice A2 x.2.2.1.length c2) := kA.cell 2
  have g3 : (w.alloc (.cells #[.bool x.1, .slice A1 x.2.1.length c1, .slice A2 x.2.2.1.length c2, .slice A3 x.2.2.2.length c3] 88)).cell? ⟨w.heap.size, 3, none⟩ = some (.slice A3 x.2.2.2.length c3) := kA.cell 3
  go_enter Tryz.func41, Tryz.ntmps41
  go_wp2_with fail
  refine (c_specPageOk _ x _ ⟨_, rfl, mkPage (x := x) (b1.up good_S uA) (b2.up good_S uA) (b3.up good_I uA)⟩ hz).mono ?_
  rintro e w1 ⟨rfl, u1⟩
  have u01 := uA.trans u1
  have k1 := kA.up u1
  clear g0 g1 g2 g3
  cases hp : pageB x
  · have HT : Hid (pageT x = ⟨#[]⟩) := Lib.hid (by unfold pageT; rw [if_neg (by rw [hp]; decide)])
    go_wp2_with fail
    refine bodyPost_ret (v := .string ⟨#[]⟩) (by simp [results, Tryz.results41, go_sem]) rfl ?_
    exact ⟨by rw [HT.out], u01⟩
  · cases hl : x.1
    · have g0 : w1.cell? ⟨w.heap.size, 0, none⟩ = some (.bool false) := hl ▸ k1.cell 0
      have g1 : w1.cell? ⟨w.heap.size, 1, none⟩ = some (.slice A1 x.2.1.length c1) := k1.cell 1
      have g2 : w1.cell? ⟨w.heap.size, 2, none⟩ = some (.slice A2 x.2.2.1.length c2) := k1.cell 2
      have g3 : w1.cell? ⟨w.heap.size, 3, none⟩ = some (.slice A3 x.2.2.2.length c3) := k1.cell 3
      have CB1 := Lib.hid (fun W => c_byteI 2 2 rfl (by omega) W)
      have hn6 := page_len hp
      have CB2 := Lib.hid (fun W => c_byteI (x.2.1.length : Int) x.2.1.length rfl (by omega) W)
      have HH : Hid (bs [UInt8.ofNat 2] ++ bs [UInt8.ofNat x.2.1.length] = bs (pageK x 0)) := Lib.hid (by rw [bs_app]; show _ = bs (pageH x); unfold pageH; rw [hl]; rfl)
      have z1 := bs_size [UInt8.ofNat 2]
      have z2 := bs_size [UInt8.ofNat x.2.1.length]
      generalize bs [UInt8.ofNat 2] = K1 at *
      generalize bs [UInt8.ofNat x.2.1.length] = K2 at *
      have hg0 : ¬ 9223372036854775807 < K1.size + K2.size := by simp only [List.length_singleton] at z1 z2; omega
      clear z1 z2
      go_wp2_with fail
      have t0 := fun t : UpT w1 => cell_up t g0
      have t1 := fun t : UpT w1 => cell_up t g1
      have t2 := fun t : UpT w1 => cell_up t g2
      have t3 := fun t : UpT w1 => cell_up t g3
      refine wp_region_up (by kernel_rfl) (by kernel_rfl) ?_
      repeat (go_big_quiet_step ((go_at_call 80; first | (with_reducible exact up_call (CB1.out _) (UpT.up _)) | (with_reducible exact up_call (CB2.out _) (UpT.up _)))))
      refine wpQuiet_nil ?_
      rintro w2 ⟨⟨w2', u2⟩, rfl⟩
      have u02 := u01.trans u2
      have k2 := k1.up u2
      clear g0 g1 g2 g3 t0 t1 t2 t3 CB1 CB2 hg0
      have g0 : w2.cell? ⟨w.heap.size, 0, none⟩ = some (.bool false) := hl ▸ k2.cell 0
      have g1 : w2.cell? ⟨w.heap.size, 1, none⟩ = some (.slice A1 x.2.1.length c1) := k2.cell 1
      have g2 : w2.cell? ⟨w.heap.size, 2, none⟩ = some (.slice A2 x.2.2.1.length c2) := k2.cell 2
      have g3 : w2.cell? ⟨w.heap.size, 3, none⟩ = some (.slice A3 x.2.2.2.length c3) := k2.cell 3
      go_wp2_with fail
      go_loopw [6, 5, 4] (fun i last t wr => ∃ k : Nat, k ≤ x.2.1.length ∧ i = .int .i64 k ∧ last = .string (lastP x.2.1 k) ∧ t = .string (bs (pageK x k)) ∧ Up w2 wr) (fun i _ _ _ => x.2.1.length - (intOf i).toNat)
      case atStart => exact ⟨0, Nat.zero_le _, rfl, by rw [lastP_zero], by rw [HH.out], Up.refl _⟩
      case round =>
        clear HH g0 g1 g2 g3
        obtain ⟨k, hk, rfl, rfl, rfl, hu⟩ := hrel
        have u03 := u02.trans hu
        have k3 := k2.up hu
        have g0 : wr.cell? ⟨w.heap.size, 0, none⟩ = some (.bool false) := hl ▸ k3.cell 0
        have g1 : wr.cell? ⟨w.heap.size, 1, none⟩ = some (.slice A1 x.2.1.length c1) := k3.cell 1
        have g2 : wr.cell? ⟨w.heap.size, 2, none⟩ = some (.slice A2 x.2.2.1.length c2) := k3.cell 2
        have g3 : wr.cell? ⟨w.heap.size, 3, none⟩ = some (.slice A3 x.2.2.2.length c3) := k3.cell 3
        by_cases hlt : k < x.2.1.length
        · obtain ⟨g, off, hgo, _, _, hc, hb1⟩ := (b1.up good_S u03).at_S hlt
          subst hgo
          have CS := Lib.hid (fun W => c_specShared (lastP x.2.1 k) x.2.1[k] W (lastP_size _ hz k) (hz _ (List.getElem_mem hlt)))
          have hsh := sharedN_le (lastP x.2.1 k) x.2.1[k]
          have hks := keyB_size (page_keys hp k hlt).1
          have hKL := pageK_len hp k hk
          have HL := Lib.hid (lastP_succ x.2.1 hlt)
          have HP : Hid (bs (pageK x (k + 1)) = bs (pageK x k) ++ bs [UInt8.ofNat (sharedN (lastP x.2.1 k) x.2.1[k])] ++ bs [UInt8.ofNat (x.2.1[k].size - sharedN (lastP x.2.1 k) x.2.1[k])] ++ x.2.1[k].extract (sharedN (lastP x.2.1 k) x.2.1[k]) x.2.1[k].size ++ bs (valPart x k)) := Lib.hid (by
            have hsl := slen x.2.1[k]
            rw [pageK_succ x hlt, ext_bs, List.take_of_length_le (by omega), bs_app, bs_app, bs_app, bs_app]
            congr 1
            unfold keyPart
            simp)
          have CB1 := Lib.hid (fun W => c_byteI ((sharedN (lastP x.2.1 k) x.2.1[k] : Nat) : Int) _ rfl (by omega) W)
          have CB2 := Lib.hid (fun W => c_byteI (((x.2.1[k].size - sharedN (lastP x.2.1 k) x.2.1[k] : Nat)) : Int) _ rfl (by omega) W)
          have hsub : IntKind.i64.wrap ((x.2.1[k].size : Int) - (sharedN (lastP x.2.1 k) x.2.1[k] : Int)) = ((x.2.1[k].size - sharedN (lastP x.2.1 k) x.2.1[k] : Nat) : Int) := by rw [IntWalk.i64_in _ (by omega)]; omega
          have hzT := bs_size (pageK x k)
          have z1 := bs_size [UInt8.ofNat (sharedN (lastP x.2.1 k) x.2.1[k])]
          have z2 := bs_size [UInt8.ofNat (x.2.1[k].size - sharedN (lastP x.2.1 k) x.2.1[k])]
          have z3 : (x.2.1[k].extract (sharedN (lastP x.2.1 k) x.2.1[k]) x.2.1[k].size).size = x.2.1[k].size - sharedN (lastP x.2.1 k) x.2.1[k] := by rw [ByteArray.size_extract]; omega
          have hsI : (0 : Int) ≤ (sharedN (lastP x.2.1 k) x.2.1[k] : Int) := by omega
          have hsJ : (sharedN (lastP x.2.1 k) x.2.1[k] : Int) ≤ (x.2.1[k].size : Int) := by omega
          generalize sharedN (lastP x.2.1 k) x.2.1[k] = sh at *
          generalize lastP x.2.1 k = LP at *
          obtain ⟨ky, hky⟩ : ∃ ky, ky = x.2.1[k] := ⟨_, rfl⟩
          rw [← hky] at hc CS hsh hks HL HP CB2 hsub z2 z3 hsJ hb1
          clear hky
          have hcx : ky.extract sh ky.size = ky.extract sh ky.size := rfl
          generalize bs (pageK x k) = T at *
          generalize bs [UInt8.ofNat sh] = B1 at *
          generalize bs [UInt8.ofNat (ky.size - sh)] = B2 at *
          have hgA : ¬ 9223372036854775807 < T.size + B1.size := by simp only [List.length_singleton] at z1 z2; omega
          have hgB : ¬ 9223372036854775807 < (T ++ B1).size + B2.size := by simp only [List.length_singleton] at z1 z2; rw [ByteArray.size_append]; omega
          have hgC : ¬ 9223372036854775807 < (T ++ B1 ++ B2).size + (ky.extract sh ky.size).size := by simp only [List.length_singleton] at z1 z2; rw [ByteArray.size_append, ByteArray.size_append]; omega
          have Z3 := Lib.hid z3
          have ZZ := Lib.hid (show (T ++ B1 ++ B2 ++ ky.extract sh ky.size).size ≤ 3000 by simp only [List.length_singleton] at z1 z2; rw [ByteArray.size_append, ByteArray.size_append, ByteArray.size_append]; omega)
          have hn6 := page_len hp
          clear z1 z2 z3 hzT hcx
          go_wp2_with fail
          refine (CS.out _).mono ?_
          rintro e w4 ⟨rfl, u4⟩
          have u04 := u03.trans u4
          have k4 := k3.up u4
          have hc4 : w4.cell? _ = _ := (u4.cell (cell_lt hc)).trans hc
          clear g0 g1 g2 g3 hc
          have g0 : w4.cell? ⟨w.heap.size, 0, none⟩ = some (.bool false) := hl ▸ k4.cell 0
          have g1 : w4.cell? ⟨w.heap.size, 1, none⟩ = some (.slice (some ⟨g, off, none⟩) x.2.1.length c1) := k4.cell 1
          have g2 : w4.cell? ⟨w.heap.size, 2, none⟩ = some (.slice A2 x.2.2.1.length c2) := k4.cell 2
          have g3 : w4.cell? ⟨w.heap.size, 3, none⟩ = some (.slice A3 x.2.2.2.length c3) := k4.cell 3
          go_wp2_with fail
          have t0 := fun t : UpT w4 => cell_up t g0
          have t1 := fun t : UpT w4 => cell_up t g1
          have t2 := fun t : UpT w4 => cell_up t g2
          have t3 := fun t : UpT w4 => cell_up t g3
          have t9 := fun t : UpT w4 => cell_up t hc4
          refine wp_region_up (by kernel_rfl) (by kernel_rfl) ?_
          repeat (go_big_quiet_step ((go_at_call 80; first | (with_reducible exact up_call (CB1.out _) (UpT.up _)) | (with_reducible exact up_call (CB2.out _) (UpT.up _)))))
          refine wpQuiet_nil ?_
          rintro w5 ⟨⟨w5', u5⟩, rfl⟩
          have u05 := u04.trans u5
          have k5 := k4.up u5
          clear g0 g1 g2 g3 t0 t1 t2 t3 t9 hgA hgB hgC hc4 CB1 CB2
          have g0 : w5.cell? ⟨w.heap.size, 0, none⟩ = some (.bool false) := hl ▸ k5.cell 0
          have g1 : w5.cell? ⟨w.heap.size, 1, none⟩ = some (.slice (some ⟨g, off, none⟩) x.2.1.length c1) := k5.cell 1
          have g2 : w5.cell? ⟨w.heap.size, 2, none⟩ = some (.slice A2 x.2.2.1.length c2) := k5.cell 2
          have g3 : w5.cell? ⟨w.heap.size, 3, none⟩ = some (.slice A3 x.2.2.2.length c3) := k5.cell 3
          have HV : Hid (bs (valPart x k) = ByteArray.empty) := Lib.hid (by unfold valPart; rw [if_neg (by rw [hl]; decide)]; rfl)
          generalize T ++ B1 ++ B2 ++ ky.extract sh ky.size = T4 at *
          go_wp2_with fail
          go_roundw
          case rel => exact ⟨k + 1, by omega, by go_num, by rw [HL.out], by rw [HP.out, HV.out, ByteArray.append_empty], (hu.trans u4).trans u5⟩
          case measure => simp [intOf]; omega
        · have hkn : k = x.2.1.length := by omega
          have HK : Hid (bs (pageK x k) = bs (pageK x x.2.1.length ++ kidsL (x.2.2.2.take 0))) := Lib.hid (by rw [hkn]; simp [kidsL])
          clear hkn
          go_wp2_with fail
          go_loopw [8, 4] (fun i t ws => ∃ j : Nat, j ≤ x.2.2.2.length ∧ i = .int .i64 j ∧ t = .string (bs (pageK x x.2.1.length ++ kidsL (x.2.2.2.take j))) ∧ Up wr ws) (fun i _ _ => x.2.2.2.length - (intOf i).toNat)
          case atStart => exact ⟨0, Nat.zero_le _, rfl, by rw [HK.out], Up.refl _⟩
          case round =>
            clear HK g0 g1 g2 g3
            obtain ⟨j, hj, rfl, rfl, hv⟩ := hrel
            have u07 := u03.trans hv
            have k7 := k3.up hv
            have g0 : wr.cell? ⟨w.heap.size, 0, none⟩ = some (.bool false) := hl ▸ k7.cell 0
            have g1 : wr.cell? ⟨w.heap.size, 1, none⟩ = some (.slice A1 x.2.1.length c1) := k7.cell 1
            have g2 : wr.cell? ⟨w.heap.size, 2, none⟩ = some (.slice A2 x.2.2.1.length c2) := k7.cell 2
            have g3 : wr.cell? ⟨w.heap.size, 3, none⟩ = some (.slice A3 x.2.2.2.length c3) := k7.cell 3
            by_cases hlj : j < x.2.2.2.length
            · obtain ⟨g, off, hgo, _, _, hc, he1, he2⟩ := (b3.up good_I u07).at_I hlj
              subst hgo
              have hkd := (page_kids hp).2 j hlj
              have hk6 := (page_kids hp).1
              have hn6 := page_len hp
              have hK := pageK_len hp x.2.1.length (Nat.le_refl _)
              have CB := Lib.hid (fun W => c_byteI x.2.2.2[j] x.2.2.2[j].toNat (by omega) (by omega) W)
              have HS : Hid (bs (pageK x x.2.1.length ++ kidsL (x.2.2.2.take (j + 1))) = bs (pageK x x.2.1.length ++ kidsL (x.2.2.2.take j)) ++ bs [UInt8.ofNat x.2.2.2[j].toNat]) := Lib.hid (by
                rw [bs_app, List.take_succ_eq_append_getElem hlj]
                unfold kidsL
                rw [List.map_append, List.append_assoc]
                rfl)
              have zT := bs_size (pageK x x.2.1.length ++ kidsL (x.2.2.2.take j))
              have zT2 : (pageK x x.2.1.length ++ kidsL (x.2.2.2.take j)).length ≤ 2000 := by rw [List.length_append, kidsL, List.length_map, List.length_take]; omega
              have zB := bs_size [UInt8.ofNat x.2.2.2[j].toNat]
              obtain ⟨kd, hkd'⟩ : ∃ kd, kd = x.2.2.2[j] := ⟨_, rfl⟩
              rw [← hkd'] at hc CB HS zB
              clear hkd hkd' he1 he2
              generalize bs (pageK x x.2.1.length ++ kidsL (x.2.2.2.take j)) = T at *
              generalize bs [UInt8.ofNat kd.toNat] = B at *
              have hgA : ¬ 9223372036854775807 < T.size + B.size := by simp only [List.length_singleton] at zB; omega
              clear zT zT2 zB hk6 hn6 hK
              go_wp2_with fail
              refine (CB.out _).mono ?_
              rintro e w8 ⟨rfl, u8⟩
              go_wp2_with fail
              go_roundw
              case rel => exact ⟨j + 1, by omega, by go_num, by rw [HS.out], hv.trans u8⟩
              case measure => simp [intOf]; omega
            · have hjn : x.2.2.2.take j = x.2.2.2 := List.take_of_length_le (by omega)
              have hpl := pageL_len hp
              have HT : Hid (pageT x = bs (pageK x x.2.1.length ++ kidsL (x.2.2.2.take j)) ++ zs (1700 - (bs (pageK x x.2.1.length ++ kidsL (x.2.2.2.take j))).size)) := Lib.hid (by
                rw [hjn, bs_size, zs_bs, bs_app]
                unfold pageT
                rw [if_pos hp]
                rfl)
              have zT : (bs (pageK x x.2.1.length ++ kidsL (x.2.2.2.take j))).size ≤ 1700 := by rw [hjn, bs_size]; exact hpl
              clear hjn hpl
              generalize bs (pageK x x.2.1.length ++ kidsL (x.2.2.2.take j)) = T at *
              obtain ⟨C, hmk, hcv⟩ := run_zs (1700 - T.size) (by omega)
              have hw1 : ((1700 : Int) - (T.size : Int)) = ((1700 - T.size : Nat) : Int) := by omega
              have zz := zs_size (1700 - T.size)
              have hgA : ¬ 9223372036854775807 < T.size + (zs (1700 - T.size)).size := by omega
              generalize zs (1700 - T.size) = ZS at *
              obtain ⟨m, hm⟩ : ∃ m, m = 1700 - T.size := ⟨_, rfl⟩
              rw [← hm] at hmk hcv hw1
              clear zz zT hm
              go_wp2_with fail
              refine bodyPost_ret (v := .string (T ++ ZS)) (by simp [results, Tryz.results41, go_sem]) rfl ?_
              exact ⟨by rw [HT.out], u07.alloc _⟩
    · have g0 : w1.cell? ⟨w.heap.size, 0, none⟩ = some (.bool true) := hl ▸ k1.cell 0
      have g1 : w1.cell? ⟨w.heap.size, 1, none⟩ = some (.slice A1 x.2.1.length c1) := k1.cell 1
      have g2 : w1.cell? ⟨w.heap.size, 2, none⟩ = some (.slice A2 x.2.2.1.length c2) := k1.cell 2
      have g3 : w1.cell? ⟨w.heap.size, 3, none⟩ = some (.slice A3 x.2.2.2.length c3) := k1.cell 3
      have CB1 := Lib.hid (fun W => c_byteI 1 1 rfl (by omega) W)
      have hn6 := page_len hp
      have CB2 := Lib.hid (fun W => c_byteI (x.2.1.length : Int) x.2.1.length rfl (by omega) W)
      have HH : Hid (bs [UInt8.ofNat 1] ++ bs [UInt8.ofNat x.2.1.length] = bs (pageK x 0)) := Lib.hid (by rw [bs_app]; show _ = bs (pageH x); unfold pageH; rw [hl]; rfl)
      have z1 := bs_size [UInt8.ofNat 1]
      have z2 := bs_size [UInt8.ofNat x.2.1.length]
      generalize bs [UInt8.ofNat 1] = K1 at *
      generalize bs [UInt8.ofNat x.2.1.length] = K2 at *
      have hg0 : ¬ 9223372036854775807 < K1.size + K2.size := by simp only [List.length_singleton] at z1 z2; omega
      clear z1 z2
      go_wp2_with fail
      have t0 := fun t : UpT w1 => cell_up t g0
      have t1 := fun t : UpT w1 => cell_up t g1
      have t2 := fun t : UpT w1 => cell_up t g2
      have t3 := fun t : UpT w1 => cell_up t g3
      refine wp_region_up (by kernel_rfl) (by kernel_rfl) ?_
      repeat (go_big_quiet_step ((go_at_call 80; first | (with_reducible exact up_call (CB1.out _) (UpT.up _)) | (with_reducible exact up_call (CB2.out _) (UpT.up _)))))
      refine wpQuiet_nil ?_
      rintro w2 ⟨⟨w2', u2⟩, rfl⟩
      have u02 := u01.trans u2
      have k2 := k1.up u2
      clear g0 g1 g2 g3 t0 t1 t2 t3 CB1 CB2 hg0
      have g0 : w2.cell? ⟨w.heap.size, 0, none⟩ = some (.bool true) := hl ▸ k2.cell 0
      have g1 : w2.cell? ⟨w.heap.size, 1, none⟩ = some (.slice A1 x.2.1.length c1) := k2.cell 1
      have g2 : w2.cell? ⟨w.heap.size, 2, none⟩ = some (.slice A2 x.2.2.1.length c2) := k2.cell 2
      have g3 : w2.cell? ⟨w.heap.size, 3, none⟩ = some (.slice A3 x.2.2.2.length c3) := k2.cell 3
      go_wp2_with fail
      go_loopw [6, 5, 4] (fun i last t wr => ∃ k : Nat, k ≤ x.2.1.length ∧ i = .int .i64 k ∧ last = .string (lastP x.2.1 k) ∧ t = .string (bs (pageK x k)) ∧ Up w2 wr) (fun i _ _ _ => x.2.1.length - (intOf i).toNat)
      case atStart => exact ⟨0, Nat.zero_le _, rfl, by rw [lastP_zero], by rw [HH.out], Up.refl _⟩
      case round =>
        clear HH g0 g1 g2 g3
        obtain ⟨k, hk, rfl, rfl, rfl, hu⟩ := hrel
        have u03 := u02.trans hu
        have k3 := k2.up hu
        have g0 : wr.cell? ⟨w.heap.size, 0, none⟩ = some (.bool true) := hl ▸ k3.cell 0
        have g1 : wr.cell? ⟨w.heap.size, 1, none⟩ = some (.slice A1 x.2.1.length c1) := k3.cell 1
        have g2 : wr.cell? ⟨w.heap.size, 2, none⟩ = some (.slice A2 x.2.2.1.length c2) := k3.cell 2
        have g3 : wr.cell? ⟨w.heap.size, 3, none⟩ = some (.slice A3 x.2.2.2.length c3) := k3.cell 3
        by_cases hlt : k < x.2.1.length
        · obtain ⟨g, off, hgo, _, _, hc, hb1⟩ := (b1.up good_S u03).at_S hlt
          subst hgo
          have CS := Lib.hid (fun W => c_specShared (lastP x.2.1 k) x.2.1[k] W (lastP_size _ hz k) (hz _ (List.getElem_mem hlt)))
          have hsh := sharedN_le (lastP x.2.1 k) x.2.1[k]
          have hks := keyB_size (page_keys hp k hlt).1
          have hKL := pageK_len hp k hk
          have HL := Lib.hid (lastP_succ x.2.1 hlt)
          have HP : Hid (bs (pageK x (k + 1)) = bs (pageK x k) ++ bs [UInt8.ofNat (sharedN (lastP x.2.1 k) x.2.1[k])] ++ bs [UInt8.ofNat (x.2.1[k].size - sharedN (lastP x.2.1 k) x.2.1[k])] ++ x.2.1[k].extract (sharedN (lastP x.2.1 k) x.2.1[k]) x.2.1[k].size ++ bs (valPart x k)) := Lib.hid (by
            have hsl := slen x.2.1[k]
            rw [pageK_succ x hlt, ext_bs, List.take_of_length_le (by omega), bs_app, bs_app, bs_app, bs_app]
            congr 1
            unfold keyPart
            simp)
          have CB1 := Lib.hid (fun W => c_byteI ((sharedN (lastP x.2.1 k) x.2.1[k] : Nat) : Int) _ rfl (by omega) W)
          have CB2 := Lib.hid (fun W => c_byteI (((x.2.1[k].size - sharedN (lastP x.2.1 k) x.2.1[k] : Nat)) : Int) _ rfl (by omega) W)
          have hsub : IntKind.i64.wrap ((x.2.1[k].size : Int) - (sharedN (lastP x.2.1 k) x.2.1[k] : Int)) = ((x.2.1[k].size - sharedN (lastP x.2.1 k) x.2.1[k] : Nat) : Int) := by rw [IntWalk.i64_in _ (by omega)]; omega
          have hzT := bs_size (pageK x k)
          have z1 := bs_size [UInt8.ofNat (sharedN (lastP x.2.1 k) x.2.1[k])]
          have z2 := bs_size [UInt8.ofNat (x.2.1[k].size - sharedN (lastP x.2.1 k) x.2.1[k])]
          have z3 : (x.2.1[k].extract (sharedN (lastP x.2.1 k) x.2.1[k]) x.2.1[k].size).size = x.2.1[k].size - sharedN (lastP x.2.1 k) x.2.1[k] := by rw [ByteArray.size_extract]; omega
          have hsI : (0 : Int) ≤ (sharedN (lastP x.2.1 k) x.2.1[k] : Int) := by omega
          have hsJ : (sharedN (lastP x.2.1 k) x.2.1[k] : Int) ≤ (x.2.1[k].size : Int) := by omega
          generalize sharedN (lastP x.2.1 k) x.2.1[k] = sh at *
          generalize lastP x.2.1 k = LP at *
          obtain ⟨ky, hky⟩ : ∃ ky, ky = x.2.1[k] := ⟨_, rfl⟩
          rw [← hky] at hc CS hsh hks HL HP CB2 hsub z2 z3 hsJ hb1
          clear hky
          have hcx : ky.extract sh ky.size = ky.extract sh ky.size := rfl
          generalize bs (pageK x k) = T at *
          generalize bs [UInt8.ofNat sh] = B1 at *
          generalize bs [UInt8.ofNat (ky.size - sh)] = B2 at *
          have hgA : ¬ 9223372036854775807 < T.size + B1.size := by simp only [List.length_singleton] at z1 z2; omega
          have hgB : ¬ 9223372036854775807 < (T ++ B1).size + B2.size := by simp only [List.length_singleton] at z1 z2; rw [ByteArray.size_append]; omega
          have hgC : ¬ 9223372036854775807 < (T ++ B1 ++ B2).size + (ky.extract sh ky.size).size := by simp only [List.length_singleton] at z1 z2; rw [ByteArray.size_append, ByteArray.size_append]; omega
          have Z3 := Lib.hid z3
          have ZZ := Lib.hid (show (T ++ B1 ++ B2 ++ ky.extract sh ky.size).size ≤ 3000 by simp only [List.length_singleton] at z1 z2; rw [ByteArray.size_append, ByteArray.size_append, ByteArray.size_append]; omega)
          have hn6 := page_len hp
          clear z1 z2 z3 hzT hcx
          go_wp2_with fail
          refine (CS.out _).mono ?_
          rintro e w4 ⟨rfl, u4⟩
          have u04 := u03.trans u4
          have k4 := k3.up u4
          have hc4 : w4.cell? _ = _ := (u4.cell (cell_lt hc)).trans hc
          clear g0 g1 g2 g3 hc
          have g0 : w4.cell? ⟨w.heap.size, 0, none⟩ = some (.bool true) := hl ▸ k4.cell 0
          have g1 : w4.cell? ⟨w.heap.size, 1, none⟩ = some (.slice (some ⟨g, off, none⟩) x.2.1.length c1) := k4.cell 1
          have g2 : w4.cell? ⟨w.heap.size, 2, none⟩ = some (.slice A2 x.2.2.1.length c2) := k4.cell 2
          have g3 : w4.cell? ⟨w.heap.size, 3, none⟩ = some (.slice A3 x.2.2.2.length c3) := k4.cell 3
          go_wp2_with fail
          have t0 := fun t : UpT w4 => cell_up t g0
          have t1 := fun t : UpT w4 => cell_up t g1
          have t2 := fun t : UpT w4 => cell_up t g2
          have t3 := fun t : UpT w4 => cell_up t g3
          have t9 := fun t : UpT w4 => cell_up t hc4
          refine wp_region_up (by kernel_rfl) (by kernel_rfl) ?_
          repeat (go_big_quiet_step ((go_at_call 80; first | (with_reducible exact up_call (CB1.out _) (UpT.up _)) | (with_reducible exact up_call (CB2.out _) (UpT.up _)))))
          refine wpQuiet_nil ?_
          rintro w5 ⟨⟨w5', u5⟩, rfl⟩
          have u05 := u04.trans u5
          have k5 := k4.up u5
          clear g0 g1 g2 g3 t0 t1 t2 t3 t9 hgA hgB hgC hc4 CB1 CB2
          have g0 : w5.cell? ⟨w.heap.size, 0, none⟩ = some (.bool true) := hl ▸ k5.cell 0
          have g1 : w5.cell? ⟨w.heap.size, 1, none⟩ = some (.slice (some ⟨g, off, none⟩) x.2.1.length c1) := k5.cell 1
          have g2 : w5.cell? ⟨w.heap.size, 2, none⟩ = some (.slice A2 x.2.2.1.length c2) := k5.cell 2
          have g3 : w5.cell? ⟨w.heap.size, 3, none⟩ = some (.slice A3 x.2.2.2.length c3) := k5.cell 3
          obtain ⟨hv1, hv2, hv3⟩ := page_vals hp hl
          have hltv : k < x.2.2.1.length := by omega
          obtain ⟨g9, off9, hgo9, _, _, hc9, hb9⟩ := (b2.up good_S u05).at_S hltv
          subst hgo9
          have hvs := hv2 k hltv
          have HV : Hid (bs (valPart x k) = bs [UInt8.ofNat x.2.2.1[k].size] ++ x.2.2.1[k]) := Lib.hid (by unfold valPart; rw [if_pos hl, dif_pos hltv]; unfold shortL; show bs ([UInt8.ofNat x.2.2.1[k].size] ++ x.2.2.1[k].data.toList) = _; rw [← bs_app]; rfl)
          have CB3 := Lib.hid (fun W => c_byteI (x.2.2.1[k].size : Int) x.2.2.1[k].size rfl (by omega) W)
          have z4 := bs_size [UInt8.ofNat x.2.2.1[k].size]
          obtain ⟨vl, hvl⟩ : ∃ vl, vl = x.2.2.1[k] := ⟨_, rfl⟩
          rw [← hvl] at hc9 hvs HV CB3 z4 hb9
          clear hvl hv1 hv2 hv3
          generalize bs [UInt8.ofNat vl.size] = B3 at *
          have zz := ZZ.out
          generalize T ++ B1 ++ B2 ++ ky.extract sh ky.size = T4 at *
          have hgD : ¬ 9223372036854775807 < T4.size + B3.size := by simp only [List.length_singleton] at z4; omega
          have hgE : ¬ 9223372036854775807 < (T4 ++ B3).size + vl.size := by simp only [List.length_singleton] at z4; rw [ByteArray.size_append]; omega
          clear z4 zz ZZ
          go_wp2_with fail
          have t0 := fun t : UpT w5 => cell_up t g0
          have t1 := fun t : UpT w5 => cell_up t g1
          have t2 := fun t : UpT w5 => cell_up t g2
          have t3 := fun t : UpT w5 => cell_up t g3
          have t9 := fun t : UpT w5 => cell_up t hc9
          refine wp_region_up (by kernel_rfl) (by kernel_rfl) ?_
          repeat (go_big_quiet_step ((go_at_call 80; with_reducible exact up_call (CB3.out _) (UpT.up _))))
          refine wpQuiet_nil ?_
          rintro w6 ⟨⟨w6', u6⟩, rfl⟩
          clear t0 t1 t2 t3 t9
          go_wp2_with fail
          go_roundw
          case rel => exact ⟨k + 1, by omega, by go_num, by rw [HL.out], by rw [HP.out, HV.out, ← ByteArray.append_assoc], ((hu.trans u4).trans u5).trans u6⟩
          case measure => simp [intOf]; omega
        · have hkn : k = x.2.1.length := by omega
          have HK : Hid (bs (pageK x k) = bs (pageK x x.2.1.length ++ kidsL (x.2.2.2.take 0))) := Lib.hid (by rw [hkn]; simp [kidsL])
          clear hkn
          go_wp2_with fail
          go_loopw [8, 4] (fun i t ws => ∃ j : Nat, j ≤ x.2.2.2.length ∧ i = .int .i64 j ∧ t = .string (bs (pageK x x.2.1.length ++ kidsL (x.2.2.2.take j))) ∧ Up wr ws) (fun i _ _ => x.2.2.2.length - (intOf i).toNat)
          case atStart => exact ⟨0, Nat.zero_le _, rfl, by rw [HK.out], Up.refl _⟩
          case round =>
            clear HK g0 g1 g2 g3
            obtain ⟨j, hj, rfl, rfl, hv⟩ := hrel
            have u07 := u03.trans hv
            have k7 := k3.up hv
            have g0 : wr.cell? ⟨w.heap.size, 0, none⟩ = some (.bool true) := hl ▸ k7.cell 0
            have g1 : wr.cell? ⟨w.heap.size, 1, none⟩ = some (.slice A1 x.2.1.length c1) := k7.cell 1
            have g2 : wr.cell? ⟨w.heap.size, 2, none⟩ = some (.slice A2 x.2.2.1.length c2) := k7.cell 2
            have g3 : wr.cell? ⟨w.heap.size, 3, none⟩ = some (.slice A3 x.2.2.2.length c3) := k7.cell 3
            by_cases hlj : j < x.2.2.2.length
            · obtain ⟨g, off, hgo, _, _, hc, he1, he2⟩ := (b3.up good_I u07).at_I hlj
              subst hgo
              have hkd := (page_kids hp).2 j hlj
              have hk6 := (page_kids hp).1
              have hn6 := page_len hp
              have hK := pageK_len hp x.2.1.length (Nat.le_refl _)
              have CB := Lib.hid (fun W => c_byteI x.2.2.2[j] x.2.2.2[j].toNat (by omega) (by omega) W)
              have HS : Hid (bs (pageK x x.2.1.length ++ kidsL (x.2.2.2.take (j + 1))) = bs (pageK x x.2.1.length ++ kidsL (x.2.2.2.take j)) ++ bs [UInt8.ofNat x.2.2.2[j].toNat]) := Lib.hid (by
                rw [bs_app, List.take_succ_eq_append_getElem hlj]
                unfold kidsL
                rw [List.map_append, List.append_assoc]
                rfl)
              have zT := bs_size (pageK x x.2.1.length ++ kidsL (x.2.2.2.take j))
              have zT2 : (pageK x x.2.1.length ++ kidsL (x.2.2.2.take j)).length ≤ 2000 := by rw [List.length_append, kidsL, List.length_map, List.length_take]; omega
              have zB := bs_size [UInt8.ofNat x.2.2.2[j].toNat]
              obtain ⟨kd, hkd'⟩ : ∃ kd, kd = x.2.2.2[j] := ⟨_, rfl⟩
              rw [← hkd'] at hc CB HS zB
              clear hkd hkd' he1 he2
              generalize bs (pageK x x.2.1.length ++ kidsL (x.2.2.2.take j)) = T at *
              generalize bs [UInt8.ofNat kd.toNat] = B at *
              have hgA : ¬ 9223372036854775807 < T.size + B.size := by simp only [List.length_singleton] at zB; omega
              clear zT zT2 zB hk6 hn6 hK
              go_wp2_with fail
              refine (CB.out _).mono ?_
              rintro e w8 ⟨rfl, u8⟩
              go_wp2_with fail
              go_roundw
              case rel => exact ⟨j + 1, by omega, by go_num, by rw [HS.out], hv.trans u8⟩
              case measure => simp [intOf]; omega
            · have hjn : x.2.2.2.take j = x.2.2.2 := List.take_of_length_le (by omega)
              have hpl := pageL_len hp
              have HT : Hid (pageT x = bs (pageK x x.2.1.length ++ kidsL (x.2.2.2.take j)) ++ zs (1700 - (bs (pageK x x.2.1.length ++ kidsL (x.2.2.2.take j))).size)) := Lib.hid (by
                rw [hjn, bs_size, zs_bs, bs_app]
                unfold pageT
                rw [if_pos hp]
                rfl)
              have zT : (bs (pageK x x.2.1.length ++ kidsL (x.2.2.2.take j))).size ≤ 1700 := by rw [hjn, bs_size]; exact hpl
              clear hjn hpl
              generalize bs (pageK x x.2.1.length ++ kidsL (x.2.2.2.take j)) = T at *
              obtain ⟨C, hmk, hcv⟩ := run_zs (1700 - T.size) (by omega)
              have hw1 : ((1700 : Int) - (T.size : Int)) = ((1700 - T.size : Nat) : Int) := by omega
              have zz := zs_size (1700 - T.size)
              have hgA : ¬ 9223372036854775807 < T.size + (zs (1700 - T.size)).size := by omega
              generalize zs (1700 - T.size) = ZS at *
              obtain ⟨m, hm⟩ : ∃ m, m = 1700 - T.size := ⟨_, rfl⟩
              rw [← hm] at hmk hcv hw1
              clear zz zT hm
              go_wp2_with fail
              refine bodyPost_ret (v := .string (T ++ ZS)) (by simp [results, Tryz.results41, go_sem]) rfl ?_
              exact ⟨by rw [HT.out], u07.alloc _⟩
end Go.Proofs.YtpjcgglhlmifdaaGreatDoor
