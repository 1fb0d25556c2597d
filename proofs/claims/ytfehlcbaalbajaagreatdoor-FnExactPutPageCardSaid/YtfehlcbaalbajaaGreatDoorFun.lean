/-
  Contracts of library functions that take a function value: slices.IndexFunc, slices.ContainsFunc.
-/
import Derived.Test.YtfehlcbaalbajaaGreatDoorRows
import Derived.Test.YtfehlcbaalbajaaGreatDoorTy
import Derived.Test.YtfehlcbaalbajaaGreatDoorRep2
import Derived.Test.YtfehlcbaalbajaaGreatDoorBas
namespace Go.Proofs.YtfehlcbaalbajaaGreatDoor
open Go.RowKit
set_option linter.unusedVariables false

theorem any_take_succ {α : Type} (p : α → Bool) (xs : List α) (k : Nat) (h : k < xs.length) : (xs.take (k + 1)).any p = ((xs.take k).any p || p xs[k]) := by
  rw [List.take_succ_eq_append_getElem h, List.any_append]; simp
theorem any_of_take {α : Type} (p : α → Bool) (xs : List α) (k : Nat) (h : (xs.take k).any p = true) : xs.any p = true := by
  rw [List.any_eq_true] at h ⊢
  obtain ⟨x, hx, hp⟩ := h
  exact ⟨x, List.mem_of_mem_take hx, hp⟩
theorem any_at {α : Type} (p : α → Bool) (xs : List α) (k : Nat) (h : k < xs.length) (hp : p xs[k] = true) : xs.any p = true := List.any_eq_true.2 ⟨_, List.getElem_mem h, hp⟩
theorem any_all {α : Type} (p : α → Bool) (xs : List α) (k : Nat) (h : (xs.take k).any p = false) (hk : xs.length ≤ k) : xs.any p = false := by rwa [List.take_of_length_le hk] at h

/-- What slices.IndexFunc gives. -/
def IdxP {α : Type} (p : α → Bool) (xs : List α) (w : World) (e : Ending) (w' : World) : Prop :=
  ∃ n : Int, e = .returned (.int .i64 n) ∧ Up w w' ∧ ((n = -1 ∧ xs.any p = false) ∨ ∃ i : Nat, n = i ∧ ∃ h : i < xs.length, p xs[i] = true ∧ (xs.take i).any p = false)
/-- What a call gives that returns a bool. -/
def BoolP (b : Bool) (w : World) (e : Ending) (w' : World) : Prop := e = .returned (.bool b) ∧ Up w w'

set_option maxHeartbeats 1000000 in
theorem c_IndexFuncString (kf : FuncId) (cap : Array Value) (eg : ∀ args w, (callFunc kf args).run Tryz.prog w = .ok (.enter kf args) w) (p : ByteArray → Bool) (A : Option Addr) (c : Nat) (xs : List ByteArray) (w : World) (h : SRW shS w A c xs)
    (hf : ∀ (W : World) (x : ByteArray), x ∈ xs → Up w W → Calls Tryz.prog kf (#[.string x] ++ cap) W (BoolP (p x) W)) :
    Calls Tryz.prog 177 #[.slice A xs.length c, .func (.func kf) #[] cap] w (IdxP p xs w) := by
  have hlen := h.len_le
  have HF := Lib.hid hf; clear hf
  go_enter Tryz.func177, Tryz.ntmps177
  go_wp2_with fail
  go_loopw [8] (fun i wr => ∃ k : Nat, k ≤ xs.length ∧ i = .int .i64 k ∧ Hid ((xs.take k).any p = false) ∧ Up w wr) (fun i _ => xs.length - (intOf i).toNat)
  case atStart => exact ⟨0, Nat.zero_le _, rfl, rfl, Up.refl _⟩
  case round =>
    obtain ⟨k, hk, rfl, HT, hu⟩ := hrel
    by_cases hlt : k < xs.length
    · obtain ⟨g, off, rfl, _, _, hc, hb⟩ := (h.up good_S hu).at_S hlt
      go_wp2_with fail
      refine (HF.out wr xs[k] (List.getElem_mem hlt) hu).mono ?_
      rintro e w1 ⟨rfl, u1⟩
      cases hp : p xs[k]
      · have HN : Hid ((xs.take (k + 1)).any p = false) := by unfold Hid; rw [any_take_succ p xs k hlt, hp, HT.out]; rfl
        clear hp
        go_wp2_with fail
        go_roundw
        case rel => exact ⟨k + 1, by omega, by go_num, HN, hu.trans u1⟩
        case measure => simp [intOf]; omega
      · have HP := Lib.hid hp; clear hp
        go_wp2_with fail
        go_ret
        exact ⟨_, rfl, hu.trans u1, .inr ⟨k, rfl, hlt, HP.out, HT.out⟩⟩
    · have HE := Lib.hid (any_all p xs k HT.out (by omega))
      go_wp2_with fail
      go_ret
      exact ⟨-1, rfl, hu, .inl ⟨rfl, HE.out⟩⟩
set_option maxHeartbeats 1000000 in
theorem c_ContainsFuncString (kf : FuncId) (cap : Array Value) (eg : ∀ args w, (callFunc kf args).run Tryz.prog w = .ok (.enter kf args) w) (p : ByteArray → Bool) (A : Option Addr) (c : Nat) (xs : List ByteArray) (w : World) (h : SRW shS w A c xs)
    (hf : ∀ (W : World) (x : ByteArray), x ∈ xs → Up w W → Calls Tryz.prog kf (#[.string x] ++ cap) W (BoolP (p x) W)) :
    Calls Tryz.prog 150 #[.slice A xs.length c, .func (.func kf) #[] cap] w (BoolP (xs.any p) w) := by
  have HF := Lib.hid hf; clear hf
  have HG := Lib.hid eg; clear eg
  go_enter Tryz.func150, Tryz.ntmps150
  go_wp2_with fail
  refine (c_IndexFuncString kf cap HG.out p A c xs w h HF.out).mono ?_
  rintro e w1 ⟨n, rfl, u1, hn⟩
  rcases hn with ⟨rfl, hn⟩ | ⟨i, rfl, hi, hp, _⟩
  · have HN := Lib.hid hn; clear hn
    go_wp2_with fail
    go_ret
    exact ⟨by rw [HN.out]; rfl, u1⟩
  · have HN := Lib.hid (any_at p xs i hi hp); clear hp
    have h0 : (0 : Int) ≤ i := by omega
    go_wp2_with fail
    go_ret
    exact ⟨by rw [HN.out]; simp, u1⟩

set_option maxHeartbeats 1000000 in
theorem c_IndexFuncInt64 (kf : FuncId) (cap : Array Value) (eg : ∀ args w, (callFunc kf args).run Tryz.prog w = .ok (.enter kf args) w) (p : Int → Bool) (A : Option Addr) (c : Nat) (xs : List Int) (w : World) (h : SRW shI w A c xs)
    (hf : ∀ (W : World) (x : Int), x ∈ xs → Up w W → I64 x → Calls Tryz.prog kf (#[.int .i64 x] ++ cap) W (BoolP (p x) W)) :
    Calls Tryz.prog 171 #[.slice A xs.length c, .func (.func kf) #[] cap] w (IdxP p xs w) := by
  have hlen := h.len_le
  have HF := Lib.hid hf; clear hf
  go_enter Tryz.func171, Tryz.ntmps171
  go_wp2_with fail
  go_loopw [8] (fun i wr => ∃ k : Nat, k ≤ xs.length ∧ i = .int .i64 k ∧ Hid ((xs.take k).any p = false) ∧ Up w wr) (fun i _ => xs.length - (intOf i).toNat)
  case atStart => exact ⟨0, Nat.zero_le _, rfl, rfl, Up.refl _⟩
  case round =>
    obtain ⟨k, hk, rfl, HT, hu⟩ := hrel
    by_cases hlt : k < xs.length
    · obtain ⟨g, off, rfl, _, _, hc, hb⟩ := (h.up good_I hu).at_I hlt
      go_wp2_with fail
      refine (HF.out wr xs[k] (List.getElem_mem hlt) hu hb).mono ?_
      rintro e w1 ⟨rfl, u1⟩
      cases hp : p xs[k]
      · have HN : Hid ((xs.take (k + 1)).any p = false) := by unfold Hid; rw [any_take_succ p xs k hlt, hp, HT.out]; rfl
        clear hp
        go_wp2_with fail
        go_roundw
        case rel => exact ⟨k + 1, by omega, by go_num, HN, hu.trans u1⟩
        case measure => simp [intOf]; omega
      · have HP := Lib.hid hp; clear hp
        go_wp2_with fail
        go_ret
        exact ⟨_, rfl, hu.trans u1, .inr ⟨k, rfl, hlt, HP.out, HT.out⟩⟩
    · have HE := Lib.hid (any_all p xs k HT.out (by omega))
      go_wp2_with fail
      go_ret
      exact ⟨-1, rfl, hu, .inl ⟨rfl, HE.out⟩⟩
set_option maxHeartbeats 1000000 in
theorem c_ContainsFuncInt64 (kf : FuncId) (cap : Array Value) (eg : ∀ args w, (callFunc kf args).run Tryz.prog w = .ok (.enter kf args) w) (p : Int → Bool) (A : Option Addr) (c : Nat) (xs : List Int) (w : World) (h : SRW shI w A c xs)
    (hf : ∀ (W : World) (x : Int), x ∈ xs → Up w W → I64 x → Calls Tryz.prog kf (#[.int .i64 x] ++ cap) W (BoolP (p x) W)) :
    Calls Tryz.prog 140 #[.slice A xs.length c, .func (.func kf) #[] cap] w (BoolP (xs.any p) w) := by
  have HF := Lib.hid hf; clear hf
  have HG := Lib.hid eg; clear eg
  go_enter Tryz.func140, Tryz.ntmps140
  go_wp2_with fail
  refine (c_IndexFuncInt64 kf cap HG.out p A c xs w h HF.out).mono ?_
  rintro e w1 ⟨n, rfl, u1, hn⟩
  rcases hn with ⟨rfl, hn⟩ | ⟨i, rfl, hi, hp, _⟩
  · have HN := Lib.hid hn; clear hn
    go_wp2_with fail
    go_ret
    exact ⟨by rw [HN.out]; rfl, u1⟩
  · have HN := Lib.hid (any_at p xs i hi hp); clear hp
    have h0 : (0 : Int) ≤ i := by omega
    go_wp2_with fail
    go_ret
    exact ⟨by rw [HN.out]; simp, u1⟩



set_option maxHeartbeats 1000000 in
theorem c_IndexFuncNode (kf : FuncId) (cap : Array Value) (eg : ∀ args w, (callFunc kf args).run Tryz.prog w = .ok (.enter kf args) w) (p : TNode → Bool) (A : Option Addr) (c : Nat) (xs : List TNode) (w : World) (h : SRW shNode w A c xs)
    (hf : ∀ (W : World) (v : Value) (x : TNode), x ∈ xs → Up w W → AV shNode W v x → Calls Tryz.prog kf (#[v] ++ cap) W (BoolP (p x) W)) :
    Calls Tryz.prog 209 #[.slice A xs.length c, .func (.func kf) #[] cap] w (IdxP p xs w) := by
  have hlen := h.len_le
  have HF := Lib.hid hf; clear hf
  go_enter Tryz.func209, Tryz.ntmps209
  go_wp2_with fail
  go_loopw [8] (fun i wr => ∃ k : Nat, k ≤ xs.length ∧ i = .int .i64 k ∧ Hid ((xs.take k).any p = false) ∧ Up w wr) (fun i _ => xs.length - (intOf i).toNat)
  case atStart => exact ⟨0, Nat.zero_le _, rfl, rfl, Up.refl _⟩
  case round =>
    obtain ⟨k, hk, rfl, HT, hu⟩ := hrel
    by_cases hlt : k < xs.length
    · obtain ⟨g, off, A1, c1, rfl, _, _, hc0, hc1, hc2, b0, b1, b2, _⟩ := atNode (h.up good_Node hu) hlt
      go_wp2_with fail
      refine (HF.out wr _ xs[k] (List.getElem_mem hlt) hu ⟨_, rfl, mkNode (x := xs[k]) b0 b1 b2⟩).mono ?_
      rintro e w1 ⟨rfl, u1⟩
      cases hp : p xs[k]
      · have HN : Hid ((xs.take (k + 1)).any p = false) := by unfold Hid; rw [any_take_succ p xs k hlt, hp, HT.out]; rfl
        clear hp
        go_wp2_with fail
        go_roundw
        case rel => exact ⟨k + 1, by omega, by go_num, HN, hu.trans u1⟩
        case measure => simp [intOf]; omega
      · have HP := Lib.hid hp; clear hp
        go_wp2_with fail
        go_ret
        exact ⟨_, rfl, hu.trans u1, .inr ⟨k, rfl, hlt, HP.out, HT.out⟩⟩
    · have HE := Lib.hid (any_all p xs k HT.out (by omega))
      go_wp2_with fail
      go_ret
      exact ⟨-1, rfl, hu, .inl ⟨rfl, HE.out⟩⟩

end Go.Proofs.YtfehlcbaalbajaaGreatDoor
