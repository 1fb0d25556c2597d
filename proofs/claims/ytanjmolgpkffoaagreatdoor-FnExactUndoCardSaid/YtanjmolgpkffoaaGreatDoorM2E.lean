/-
  Shapes of the structs of the program, by a program of ours (gen.py).
  Contracts of library functions that take a function value: slices.IndexFunc, slices.ContainsFunc.
  The program's order and places: contracts.
  The program's PutSubs: the keys of a list of subscripts.
-/
import Derived.Test.YtanjmolgpkffoaaGreatDoorM2A
import Derived.Test.YtanjmolgpkffoaaGreatDoorRows
import Derived.Test.YtanjmolgpkffoaaGreatDoorM2D
import Derived.Test.YtanjmolgpkffoaaGreatDoorM2B
import Derived.Test.YtanjmolgpkffoaaGreatDoorM2C
namespace Go.Proofs.YtanjmolgpkffoaaGreatDoor
open Go.RowKit
set_option linter.unusedSimpArgs false
abbrev TNode : Type := ByteArray × (List ByteArray) × ByteArray
def shNode : Sh TNode := (shP shS (shP (shL shS) shS))
theorem good_Node : Good shNode := (good_P good_S (good_P (good_L good_S) good_S))
theorem openNode {w : World} {lo hi : Nat} {cs : List Value} {x : TNode} (h : shNode.rep w lo hi cs x) :
    ∃ (A1 : Option Addr) (c1 : Nat), cs = [.string x.1, .slice A1 x.2.1.length c1, .string x.2.2] ∧ x.1.size ≤ maxLen ∧ SR shS w lo hi A1 c1 x.2.1 ∧ x.2.2.size ≤ maxLen := by
  obtain ⟨p1, q1, rfl, l1, r1⟩ := open_P h
  obtain ⟨rfl, b0⟩ := l1
  obtain ⟨p2, q2, rfl, l2, r2⟩ := open_P r1
  obtain ⟨A1, c1, rfl, b1⟩ := l2
  obtain ⟨rfl, b2⟩ := r2
  exact ⟨A1, c1, rfl, b0, b1, b2⟩
theorem mkNode {w : World} {lo hi : Nat} {x : TNode} {A1 : Option Addr} {c1 : Nat} (b0 : x.1.size ≤ maxLen) (b1 : SR shS w lo hi A1 c1 x.2.1) (b2 : x.2.2.size ≤ maxLen) : shNode.rep w lo hi [.string x.1, .slice A1 x.2.1.length c1, .string x.2.2] x :=
  (mk_P good_S ⟨rfl, b0⟩ (mk_P (good_L good_S) ⟨A1, c1, rfl, b1⟩ ⟨rfl, b2⟩))
theorem openONode {w : World} {lo hi : Nat} {cs : List Value} {x : TNode} {bl : List Nat} (h : shNode.own w lo hi cs x bl) :
    ∃ (A1 : Option Addr) (c1 : Nat) (bl1 : List Nat), cs = [.string x.1, .slice A1 x.2.1.length c1, .string x.2.2] ∧ bl = bl1 ∧ x.1.size ≤ maxLen ∧ SO shS w lo hi A1 c1 x.2.1 bl1 ∧ x.2.2.size ≤ maxLen := by
  obtain ⟨p1, q1, _, _, rfl, rfl, l1, r1⟩ := openO_P h
  obtain ⟨⟨rfl, b0⟩, rfl⟩ := l1
  obtain ⟨p2, q2, _, _, rfl, rfl, l2, r2⟩ := openO_P r1
  obtain ⟨A1, c1, rfl, b1⟩ := l2
  obtain ⟨⟨rfl, b2⟩, rfl⟩ := r2
  exact ⟨A1, c1, _, rfl, by simp, b0, b1, b2⟩
theorem mkONode {w : World} {lo hi : Nat} {x : TNode} {A1 : Option Addr} {c1 : Nat} {bl1 : List Nat} (b0 : x.1.size ≤ maxLen) (b1 : SO shS w lo hi A1 c1 x.2.1 bl1) (b2 : x.2.2.size ≤ maxLen) : shNode.own w lo hi [.string x.1, .slice A1 x.2.1.length c1, .string x.2.2] x (bl1) := by
  have h : shNode.own w lo hi [.string x.1, .slice A1 x.2.1.length c1, .string x.2.2] x _ := (mkO_P good_S ⟨⟨rfl, b0⟩, rfl⟩ (mkO_P (good_L good_S) ⟨A1, c1, rfl, b1⟩ ⟨⟨rfl, b2⟩, rfl⟩))
  simpa using h
theorem atNode {w : World} {lo hi : Nat} {A : Option Addr} {c : Nat} {xs : List TNode} (h : SR shNode w lo hi A c xs) {i : Nat} (hi' : i < xs.length) :
    ∃ (g off : Nat) (A1 : Option Addr) (c1 : Nat), A = some ⟨g, off, none⟩ ∧ lo ≤ g ∧ g < hi ∧ w.cell? ⟨g, off + i * 3, none⟩ = some (.string xs[i].1) ∧ w.cell? ⟨g, off + i * 3 + 1, none⟩ = some (.slice A1 xs[i].2.1.length c1) ∧ w.cell? ⟨g, off + i * 3 + 2, none⟩ = some (.string xs[i].2.2) ∧ xs[i].1.size ≤ maxLen ∧ SR shS w lo hi A1 c1 xs[i].2.1 ∧ xs[i].2.2.size ≤ maxLen ∧ True := by
  obtain ⟨g, off, cs, hA, h1, h2, hc, hr⟩ := h.at_ hi'
  obtain ⟨A1, c1, rfl, b0, b1, b2⟩ := openNode hr
  exact ⟨g, off, A1, c1, hA, h1, h2, hc.2 0 (by decide), hc.2 1 (by decide), hc.2 2 (by decide), b0, b1, b2, trivial⟩
abbrev TTree : Type := (List TNode)
def shTree : Sh TTree := (shL shNode)
theorem good_Tree : Good shTree := (good_L good_Node)
theorem openTree {w : World} {lo hi : Nat} {cs : List Value} {x : TTree} (h : shTree.rep w lo hi cs x) :
    ∃ (A0 : Option Addr) (c0 : Nat), cs = [.slice A0 x.length c0] ∧ SR shNode w lo hi A0 c0 x := by
  obtain ⟨A0, c0, rfl, b0⟩ := h
  exact ⟨A0, c0, rfl, b0⟩
theorem mkTree {w : World} {lo hi : Nat} {x : TTree} {A0 : Option Addr} {c0 : Nat} (b0 : SR shNode w lo hi A0 c0 x) : shTree.rep w lo hi [.slice A0 x.length c0] x :=
  ⟨A0, c0, rfl, b0⟩
theorem openOTree {w : World} {lo hi : Nat} {cs : List Value} {x : TTree} {bl : List Nat} (h : shTree.own w lo hi cs x bl) :
    ∃ (A0 : Option Addr) (c0 : Nat) (bl0 : List Nat), cs = [.slice A0 x.length c0] ∧ bl = bl0 ∧ SO shNode w lo hi A0 c0 x bl0 := by
  obtain ⟨A0, c0, rfl, b0⟩ := h
  exact ⟨A0, c0, _, rfl, by simp, b0⟩
theorem mkOTree {w : World} {lo hi : Nat} {x : TTree} {A0 : Option Addr} {c0 : Nat} {bl0 : List Nat} (b0 : SO shNode w lo hi A0 c0 x bl0) : shTree.own w lo hi [.slice A0 x.length c0] x (bl0) := by
  have h : shTree.own w lo hi [.slice A0 x.length c0] x _ := ⟨A0, c0, rfl, b0⟩
  simpa using h
abbrev TImage : Type := ByteArray × (List ByteArray) × Bool × ByteArray × Bool × ByteArray
def shImage : Sh TImage := (shP shS (shP (shL shS) (shP shB (shP shS (shP shB shS)))))
theorem good_Image : Good shImage := (good_P good_S (good_P (good_L good_S) (good_P good_B (good_P good_S (good_P good_B good_S)))))
theorem openImage {w : World} {lo hi : Nat} {cs : List Value} {x : TImage} (h : shImage.rep w lo hi cs x) :
    ∃ (A1 : Option Addr) (c1 : Nat), cs = [.string x.1, .slice A1 x.2.1.length c1, .bool x.2.2.1, .string x.2.2.2.1, .bool x.2.2.2.2.1, .string x.2.2.2.2.2] ∧ x.1.size ≤ maxLen ∧ SR shS w lo hi A1 c1 x.2.1 ∧ x.2.2.2.1.size ≤ maxLen ∧ x.2.2.2.2.2.size ≤ maxLen := by
  obtain ⟨p1, q1, rfl, l1, r1⟩ := open_P h
  obtain ⟨rfl, b0⟩ := l1
  obtain ⟨p2, q2, rfl, l2, r2⟩ := open_P r1
  obtain ⟨A1, c1, rfl, b1⟩ := l2
  obtain ⟨p3, q3, rfl, l3, r3⟩ := open_P r2
  obtain rfl := l3
  obtain ⟨p4, q4, rfl, l4, r4⟩ := open_P r3
  obtain ⟨rfl, b3⟩ := l4
  obtain ⟨p5, q5, rfl, l5, r5⟩ := open_P r4
  obtain rfl := l5
  obtain ⟨rfl, b5⟩ := r5
  exact ⟨A1, c1, rfl, b0, b1, b3, b5⟩
theorem mkImage {w : World} {lo hi : Nat} {x : TImage} {A1 : Option Addr} {c1 : Nat} (b0 : x.1.size ≤ maxLen) (b1 : SR shS w lo hi A1 c1 x.2.1) (b3 : x.2.2.2.1.size ≤ maxLen) (b5 : x.2.2.2.2.2.size ≤ maxLen) : shImage.rep w lo hi [.string x.1, .slice A1 x.2.1.length c1, .bool x.2.2.1, .string x.2.2.2.1, .bool x.2.2.2.2.1, .string x.2.2.2.2.2] x :=
  (mk_P good_S ⟨rfl, b0⟩ (mk_P (good_L good_S) ⟨A1, c1, rfl, b1⟩ (mk_P good_B rfl (mk_P good_S ⟨rfl, b3⟩ (mk_P good_B rfl ⟨rfl, b5⟩)))))
theorem openOImage {w : World} {lo hi : Nat} {cs : List Value} {x : TImage} {bl : List Nat} (h : shImage.own w lo hi cs x bl) :
    ∃ (A1 : Option Addr) (c1 : Nat) (bl1 : List Nat), cs = [.string x.1, .slice A1 x.2.1.length c1, .bool x.2.2.1, .string x.2.2.2.1, .bool x.2.2.2.2.1, .string x.2.2.2.2.2] ∧ bl = bl1 ∧ x.1.size ≤ maxLen ∧ SO shS w lo hi A1 c1 x.2.1 bl1 ∧ x.2.2.2.1.size ≤ maxLen ∧ x.2.2.2.2.2.size ≤ maxLen := by
  obtain ⟨p1, q1, _, _, rfl, rfl, l1, r1⟩ := openO_P h
  obtain ⟨⟨rfl, b0⟩, rfl⟩ := l1
  obtain ⟨p2, q2, _, _, rfl, rfl, l2, r2⟩ := openO_P r1
  obtain ⟨A1, c1, rfl, b1⟩ := l2
  obtain ⟨p3, q3, _, _, rfl, rfl, l3, r3⟩ := openO_P r2
  obtain ⟨rfl, rfl⟩ := l3
  obtain ⟨p4, q4, _, _, rfl, rfl, l4, r4⟩ := openO_P r3
  obtain ⟨⟨rfl, b3⟩, rfl⟩ := l4
  obtain ⟨p5, q5, _, _, rfl, rfl, l5, r5⟩ := openO_P r4
  obtain ⟨rfl, rfl⟩ := l5
  obtain ⟨⟨rfl, b5⟩, rfl⟩ := r5
  exact ⟨A1, c1, _, rfl, by simp, b0, b1, b3, b5⟩
theorem mkOImage {w : World} {lo hi : Nat} {x : TImage} {A1 : Option Addr} {c1 : Nat} {bl1 : List Nat} (b0 : x.1.size ≤ maxLen) (b1 : SO shS w lo hi A1 c1 x.2.1 bl1) (b3 : x.2.2.2.1.size ≤ maxLen) (b5 : x.2.2.2.2.2.size ≤ maxLen) : shImage.own w lo hi [.string x.1, .slice A1 x.2.1.length c1, .bool x.2.2.1, .string x.2.2.2.1, .bool x.2.2.2.2.1, .string x.2.2.2.2.2] x (bl1) := by
  have h : shImage.own w lo hi [.string x.1, .slice A1 x.2.1.length c1, .bool x.2.2.1, .string x.2.2.2.1, .bool x.2.2.2.2.1, .string x.2.2.2.2.2] x _ := (mkO_P good_S ⟨⟨rfl, b0⟩, rfl⟩ (mkO_P (good_L good_S) ⟨A1, c1, rfl, b1⟩ (mkO_P good_B ⟨rfl, rfl⟩ (mkO_P good_S ⟨⟨rfl, b3⟩, rfl⟩ (mkO_P good_B ⟨rfl, rfl⟩ ⟨⟨rfl, b5⟩, rfl⟩)))))
  simpa using h
theorem atImage {w : World} {lo hi : Nat} {A : Option Addr} {c : Nat} {xs : List TImage} (h : SR shImage w lo hi A c xs) {i : Nat} (hi' : i < xs.length) :
    ∃ (g off : Nat) (A1 : Option Addr) (c1 : Nat), A = some ⟨g, off, none⟩ ∧ lo ≤ g ∧ g < hi ∧ w.cell? ⟨g, off + i * 6, none⟩ = some (.string xs[i].1) ∧ w.cell? ⟨g, off + i * 6 + 1, none⟩ = some (.slice A1 xs[i].2.1.length c1) ∧ w.cell? ⟨g, off + i * 6 + 2, none⟩ = some (.bool xs[i].2.2.1) ∧ w.cell? ⟨g, off + i * 6 + 3, none⟩ = some (.string xs[i].2.2.2.1) ∧ w.cell? ⟨g, off + i * 6 + 4, none⟩ = some (.bool xs[i].2.2.2.2.1) ∧ w.cell? ⟨g, off + i * 6 + 5, none⟩ = some (.string xs[i].2.2.2.2.2) ∧ xs[i].1.size ≤ maxLen ∧ SR shS w lo hi A1 c1 xs[i].2.1 ∧ xs[i].2.2.2.1.size ≤ maxLen ∧ xs[i].2.2.2.2.2.size ≤ maxLen ∧ True := by
  obtain ⟨g, off, cs, hA, h1, h2, hc, hr⟩ := h.at_ hi'
  obtain ⟨A1, c1, rfl, b0, b1, b3, b5⟩ := openImage hr
  exact ⟨g, off, A1, c1, hA, h1, h2, hc.2 0 (by decide), hc.2 1 (by decide), hc.2 2 (by decide), hc.2 3 (by decide), hc.2 4 (by decide), hc.2 5 (by decide), b0, b1, b3, b5, trivial⟩
end Go.Proofs.YtanjmolgpkffoaaGreatDoor

namespace Go.Proofs.YtanjmolgpkffoaaGreatDoor
open Go.RowKit
set_option linter.unusedVariables false

theorem any_take_succ {α : Type} (p : α → Bool) (xs : List α) (k : Nat) (h : k < xs.length) : (xs.take (k + 1)).any p = ((xs.take k).any p || p xs[k]) := by
  rw [List.take_succ_eq_append_getElem h, List.any_append]; simp
theorem any_at {α : Type} (p : α → Bool) (xs : List α) (k : Nat) (h : k < xs.length) (hp : p xs[k] = true) : xs.any p = true := List.any_eq_true.2 ⟨_, List.getElem_mem h, hp⟩
theorem any_all {α : Type} (p : α → Bool) (xs : List α) (k : Nat) (h : (xs.take k).any p = false) (hk : xs.length ≤ k) : xs.any p = false := by rwa [List.take_of_length_le hk] at h

/-- What slices.IndexFunc gives. -/
def IdxP {α : Type} (p : α → Bool) (xs : List α) (w : World) (e : Ending) (w' : World) : Prop :=
  ∃ n : Int, e = .returned (.int .i64 n) ∧ Up w w' ∧ ((n = -1 ∧ xs.any p = false) ∨ ∃ i : Nat, n = i ∧ ∃ h : i < xs.length, p xs[i] = true ∧ (xs.take i).any p = false)
/-- What a call gives that returns a bool. -/
def BoolP (b : Bool) (w : World) (e : Ending) (w' : World) : Prop := e = .returned (.bool b) ∧ Up w w'

set_option maxHeartbeats 1000000 in
theorem c_IndexFuncString (kf : FuncId) (cap : Array Value) (eg : ∀ args w, (callFunc kf args).run Tryz.prog w = .ok (.enter kf args) w) (p : ByteArray → Bool) (A : Option Addr) (c : Nat) (xs : List ByteArray) (w : World) (h : SRW shS w A c xs)
    (hf : ∀ (W : World) (x : ByteArray), x ∈ xs → Up w W → Calls Tryz.prog kf (#[.string x] ++ cap) W (BoolP (p x) W)) :
    Calls Tryz.prog 199 #[.slice A xs.length c, .func (.func kf) #[] cap] w (IdxP p xs w) := by
  have hlen := h.len_le
  have HF := Lib.hid hf; clear hf
  go_enter Tryz.func199, Tryz.ntmps199
  go_wp2_with fail
  go_loopw [8] (fun i wr => ∃ k : Nat, k ≤ xs.length ∧ i = .int .i64 k ∧ Hid ((xs.take k).any p = false) ∧ Up w wr) (fun i _ => xs.length - (intOf i).toNat)
  case atStart => exact ⟨0, Nat.zero_le _, rfl, rfl, Up.refl _⟩
  case round =>
    obtain ⟨k, hk, rfl, HT, hu⟩ := hrel
    by_cases hlt : k < xs.length
    · obtain ⟨g, off, rfl, _, _, hc, hb⟩ := (h.up good_S hu).at_S hlt
      go_wp2_with fail
      refine (HF.out wr xs[k] (List.getElem_mem hlt) hu).mono ?_
      rintro e w1 ⟨rfl, u1⟩
      cases hp : p xs[k]
      · have HN : Hid ((xs.take (k + 1)).any p = false) := by unfold Hid; rw [any_take_succ p xs k hlt, hp, HT.out]; rfl
        clear hp
        go_wp2_with fail
        go_roundw
        case rel => exact ⟨k + 1, by omega, by go_num, HN, hu.trans u1⟩
        case measure => simp [intOf]; omega
      · have HP := Lib.hid hp; clear hp
        go_wp2_with fail
        go_ret
        exact ⟨_, rfl, hu.trans u1, .inr ⟨k, rfl, hlt, HP.out, HT.out⟩⟩
    · have HE := Lib.hid (any_all p xs k HT.out (by omega))
      go_wp2_with fail
      go_ret
      exact ⟨-1, rfl, hu, .inl ⟨rfl, HE.out⟩⟩
set_option maxHeartbeats 1000000 in
theorem c_ContainsFuncString (kf : FuncId) (cap : Array Value) (eg : ∀ args w, (callFunc kf args).run Tryz.prog w = .ok (.enter kf args) w) (p : ByteArray → Bool) (A : Option Addr) (c : Nat) (xs : List ByteArray) (w : World) (h : SRW shS w A c xs)
    (hf : ∀ (W : World) (x : ByteArray), x ∈ xs → Up w W → Calls Tryz.prog kf (#[.string x] ++ cap) W (BoolP (p x) W)) :
    Calls Tryz.prog 154 #[.slice A xs.length c, .func (.func kf) #[] cap] w (BoolP (xs.any p) w) := by
  have HF := Lib.hid hf; clear hf
  have HG := Lib.hid eg; clear eg
  go_enter Tryz.func154, Tryz.ntmps154
  go_wp2_with fail
  refine (c_IndexFuncString kf cap HG.out p A c xs w h HF.out).mono ?_
  rintro e w1 ⟨n, rfl, u1, hn⟩
  rcases hn with ⟨rfl, hn⟩ | ⟨i, rfl, hi, hp, _⟩
  · have HN := Lib.hid hn; clear hn
    go_wp2_with fail
    go_ret
    exact ⟨by rw [HN.out]; rfl, u1⟩
  · have HN := Lib.hid (any_at p xs i hi hp); clear hp
    have h0 : (0 : Int) ≤ i := by omega
    go_wp2_with fail
    go_ret
    exact ⟨by rw [HN.out]; simp, u1⟩

end Go.Proofs.YtanjmolgpkffoaaGreatDoor

namespace Go.Proofs.YtanjmolgpkffoaaGreatDoor
open Go.RowKit
set_option linter.unusedVariables false
set_option linter.unusedSimpArgs false

theorem c_isNaNS (s : ByteArray) (w : World) : Calls Tryz.prog 161 #[.string s] w fun e w' => e = .returned (.bool false) ∧ w = w' := by
  have h : (s.toList == s.toList) = true := by simp
  go_enter Tryz.func161, Tryz.ntmps161
  go_wp2
  go_ret
  exact ⟨by first | rfl | simp, rfl⟩
theorem c_isNaNI (n : Int) (w : World) : Calls Tryz.prog 195 #[.int .i64 n] w fun e w' => e = .returned (.bool false) ∧ w = w' := by
  go_enter Tryz.func195, Tryz.ntmps195
  go_wp2
  go_ret
  exact ⟨by first | rfl | simp, rfl⟩
theorem c_CompareS (a b : ByteArray) (w : World) : Calls Tryz.prog 113 #[.string a, .string b] w fun e w' => e = .returned (.int .i64 (cmpBy bytesLt a b)) ∧ w = w' := by
  rcases lo_bytes.three a b with ⟨e1, e2, ne, e4⟩ | ⟨rfl, e1, e2, e4⟩ | ⟨e1, e2, ne, e4⟩
  all_goals
    have H := Lib.hid e4
    clear e4
    try (have hbe : (a.toList == b.toList) = false := by rw [str_beq]; simp [ne])
    try clear ne
    unfold bytesLt at e1 e2
    go_enter Tryz.func113, Tryz.ntmps113
    go_wp2_with (go_at_call 161; refine (c_isNaNS _ _).mono ?_; rintro e w' ⟨rfl, rfl⟩)
    go_ret
    exact ⟨by rw [H.out]; first | done | rfl, rfl⟩
theorem c_CompareI (a b : Int) (w : World) : Calls Tryz.prog 146 #[.int .i64 a, .int .i64 b] w fun e w' => e = .returned (.int .i64 (cmpBy intLt a b)) ∧ w = w' := by
  rcases lo_int.three a b with ⟨e1, e2, _, e4⟩ | ⟨rfl, e1, e2, e4⟩ | ⟨e1, e2, _, e4⟩
  all_goals
    have H := Lib.hid e4
    clear e4
    simp only [intLt, decide_eq_true_eq, decide_eq_false_iff_not] at e1 e2
    go_enter Tryz.func146, Tryz.ntmps146
    go_wp2_with (go_at_call 195; refine (c_isNaNI _ _).mono ?_; rintro e w' ⟨rfl, rfl⟩)
    go_ret
    exact ⟨by rw [H.out]; first | done | rfl, rfl⟩
theorem cmp_sub_tt {a b : ByteArray} (ha : canon a = true) (hb : canon b = true) : cmpBy subLt a b = cmpBy intLt (numOf a) (numOf b) := by simp [cmpBy, subLt, ha, hb]
theorem cmp_sub_tf {a b : ByteArray} (ha : canon a = true) (hb : canon b = false) : cmpBy subLt a b = -1 := by simp [cmpBy, subLt, ha, hb]
theorem cmp_sub_ft {a b : ByteArray} (ha : canon a = false) (hb : canon b = true) : cmpBy subLt a b = 1 := by simp [cmpBy, subLt, ha, hb]
theorem cmp_sub_ff {a b : ByteArray} (ha : canon a = false) (hb : canon b = false) : cmpBy subLt a b = cmpBy bytesLt a b := by simp [cmpBy, subLt, ha, hb]
set_option maxRecDepth 100000 in
set_option maxHeartbeats 4000000 in
theorem c_collate (a b : ByteArray) (w : World) (ha : a.size ≤ 2 ^ 62) (hb : b.size ≤ 2 ^ 62) (htab : Tab w) : Calls Tryz.prog 163 #[.string a, .string b] w (RetV (.int .i64 (cmpBy subLt a b)) w) := by
  cases hca : canon a <;> cases hcb : canon b
  all_goals
    first | have H := Lib.hid (cmp_sub_tt hca hcb) | have H := Lib.hid (cmp_sub_tf hca hcb) | have H := Lib.hid (cmp_sub_ft hca hcb) | have H := Lib.hid (cmp_sub_ff hca hcb)
    go_enter Tryz.func163, Tryz.ntmps163
    go_wp2_with fail
    refine (c_IsCanon a _ ha htab).mono ?_
    rintro e w1 ⟨rfl, u1⟩
    rw [hca]
    go_wp2_with fail
    refine (c_IsCanon b _ hb (tab_up htab u1)).mono ?_
    rintro e w2 ⟨rfl, u2⟩
    rw [hcb]
    have uu := u1.trans u2
    clear u1 u2
    first
      | (go_wp2_with fail
         refine (c_NumOf a _ ha).mono ?_
         rintro e w3 ⟨rfl, u3⟩
         go_wp2_with fail
         refine (c_NumOf b _ hb).mono ?_
         rintro e w4 ⟨rfl, u4⟩
         go_wp2_with fail
         refine (c_CompareI _ _ _).mono ?_
         rintro e w5 ⟨rfl, rfl⟩
         go_wp2_with fail
         go_ret
         exact ⟨by rw [H.out]; first | done | rfl, (uu.trans u3).trans u4⟩)
      | (go_wp2_with fail
         refine (c_CompareS _ _ _).mono ?_
         rintro e w5 ⟨rfl, rfl⟩
         go_wp2_with fail
         go_ret
         exact ⟨by rw [H.out]; first | done | rfl, uu⟩)
      | (go_wp2_with fail
         go_ret
         exact ⟨by rw [H.out]; first | done | rfl, uu⟩)
/-- Texts that are no longer than the laws let in. -/
abbrev Small (xs : List ByteArray) : Prop := ∀ i (h : i < xs.length), xs[i].size ≤ 1048576
set_option maxRecDepth 100000 in
set_option maxHeartbeats 4000000 in
theorem c_CompareFunc (xs ys : List ByteArray) (A B : Option Addr) (c d : Nat) (w : World) (h : SRW shS w A c xs) (k : SRW shS w B d ys) (hx : Small xs) (hy : Small ys) (htab : Tab w) :
    Calls Tryz.prog 162 #[.slice A xs.length c, .slice B ys.length d, .func (.func 163) #[] #[]] w (RetV (.int .i64 (cmpBy subsLt xs ys)) w) := by
  have hlen := h.len_le
  have klen := k.len_le
  have HX := Lib.hid hx
  have HY := Lib.hid hy
  clear hx hy
  go_enter Tryz.func162, Tryz.ntmps162
  go_wp2_with fail
  go_loopw [13] (fun i wr => ∃ k : Nat, k ≤ xs.length ∧ k ≤ ys.length ∧ i = .int .i64 k ∧ Hid (xs.take k = ys.take k) ∧ Up w wr) (fun i _ => xs.length - (intOf i).toNat)
  case atStart => exact ⟨0, Nat.zero_le _, Nat.zero_le _, rfl, rfl, Up.refl _⟩
  case round =>
    obtain ⟨j, hj, hj', rfl, HT, hu⟩ := hrel
    by_cases hlt : j < xs.length
    · by_cases hlt' : j < ys.length
      · obtain ⟨g, off, rfl, _, _, hc, hb1⟩ := (h.up good_S hu).at_S hlt
        obtain ⟨g', off', rfl, _, _, hc', hb2⟩ := (k.up good_S hu).at_S hlt'
        have hx1 := HX.out j hlt
        have hy1 := HY.out j hlt'
        by_cases he : xs[j] = ys[j]
        · have hz : cmpBy subLt xs[j] ys[j] = 0 := (cmpBy_zero lo_sub _ _).2 he
          have HE := Lib.hid he; clear he
          go_wp2_with fail
          refine (c_collate xs[j] ys[j] _ (by omega) (by omega) (tab_up htab hu)).mono ?_
          rintro e w1 ⟨rfl, u1⟩
          rw [hz]
          go_wp2_with fail
          go_roundw
          case rel => exact ⟨j + 1, by omega, by omega, by go_num, take_snoc_eq HT.out hlt hlt' HE.out, hu.trans u1⟩
          case measure => simp [intOf]; omega
        · have HE : Hid (cmpBy subsLt xs ys = cmpBy subLt xs[j] ys[j]) := cmp_lex_at lo_sub HT.out hlt hlt' he
          have hnz : ¬ cmpBy subLt xs[j] ys[j] = 0 := fun e => he ((cmpBy_zero lo_sub _ _).1 e)
          clear he
          go_wp2_with fail
          refine (c_collate xs[j] ys[j] _ (by omega) (by omega) (tab_up htab hu)).mono ?_
          rintro e w1 ⟨rfl, u1⟩
          generalize cmpBy subLt xs[j] ys[j] = z at *
          have hzb : (z != 0) = true := by simpa using hnz
          go_wp2_with fail
          go_ret
          exact ⟨by rw [HE.out]; first | done | rfl, hu.trans u1⟩
      · have HE : Hid (cmpBy subsLt xs ys = 1) := by
          have := cmp_lex_end lo_sub HT.out hj hj' (fun e => hlt' e.2)
          rw [if_neg (by omega), if_pos (by omega)] at this
          exact this
        obtain ⟨g, off, rfl, _, _, hc, hb1⟩ := (h.up good_S hu).at_S hlt
        clear HT
        go_wp2_with fail
        go_ret
        exact ⟨by rw [HE.out]; first | done | rfl, hu⟩
    · have HE : Hid (cmpBy subsLt xs ys = if xs.length < ys.length then -1 else 0) := by
        have := cmp_lex_end lo_sub HT.out hj hj' (fun e => hlt e.1)
        unfold Hid subsLt
        rw [this]
        split
        · rfl
        · rw [if_neg (by omega)]
      clear HT
      by_cases hl : xs.length < ys.length
      · rw [if_pos hl] at HE
        go_wp2_with fail
        go_ret
        exact ⟨by rw [HE.out]; first | done | rfl, hu⟩
      · rw [if_neg hl] at HE
        go_wp2_with fail
        go_ret
        exact ⟨by rw [HE.out]; first | done | rfl, hu⟩
theorem c_collateLists (xs ys : List ByteArray) (A B : Option Addr) (c d : Nat) (w : World) (h : SRW shS w A c xs) (k : SRW shS w B d ys) (hx : Small xs) (hy : Small ys) (htab : Tab w) :
    Calls Tryz.prog 114 #[.slice A xs.length c, .slice B ys.length d] w (RetV (.int .i64 (cmpBy subsLt xs ys)) w) := by
  have HX := Lib.hid hx
  have HY := Lib.hid hy
  clear hx hy
  go_enter Tryz.func114, Tryz.ntmps114
  go_wp2_with fail
  refine (c_CompareFunc xs ys A B c d _ h k HX.out HY.out htab).mono ?_
  rintro e w1 ⟨rfl, u1⟩
  go_wp2_with fail
  go_ret
  exact ⟨rfl, u1⟩
/-- cmp.Or of two numbers in a row that the caller has made. -/
theorem c_cmpOr (a b : Int) (g : Nat) (w : World) (hb : Bk w g 3 #[.int .i64 a, .int .i64 b]) : Calls Tryz.prog 112 #[.slice (some ⟨g, 0, none⟩) 2 2] w (RetV (.int .i64 (if a = 0 then b else a)) w) := by
  have c0 : w.cell? ⟨g, 0, none⟩ = some (.int .i64 a) := hb.cell 0
  have c1 : w.cell? ⟨g, 1, none⟩ = some (.int .i64 b) := hb.cell 1
  by_cases ha : a = 0
  · subst ha
    by_cases hbz : b = 0
    · subst hbz
      go_enter Tryz.func112, Tryz.ntmps112
      go_wp2_with fail
      go_loop [8] (fun i => i = .int .i64 0 ∨ i = .int .i64 1 ∨ i = .int .i64 2) (fun i => 2 - (intOf i).toNat)
      case atStart => exact .inl rfl
      case round =>
        rcases hrel with rfl | rfl | rfl
        · go_wp2_with fail
          go_round
          case rel => exact .inr (.inl rfl)
          case measure => simp [intOf]
        · go_wp2_with fail
          go_round
          case rel => exact .inr (.inr rfl)
          case measure => simp [intOf]
        · go_wp2_with fail
          go_ret
          exact ⟨rfl, Up.refl _⟩
    · have hbn : (b != 0) = true := by simpa using hbz
      go_enter Tryz.func112, Tryz.ntmps112
      go_wp2_with fail
      go_loop [8] (fun i => i = .int .i64 0 ∨ i = .int .i64 1) (fun i => 2 - (intOf i).toNat)
      case atStart => exact .inl rfl
      case round =>
        rcases hrel with rfl | rfl
        · go_wp2_with fail
          go_round
          case rel => exact .inr rfl
          case measure => simp [intOf]
        · go_wp2_with fail
          go_ret
          exact ⟨rfl, Up.refl _⟩
  · have han : (a != 0) = true := by simpa using ha
    go_enter Tryz.func112, Tryz.ntmps112
    go_wp2_with fail
    go_loop [8] (fun i => i = .int .i64 0) (fun i => 2 - (intOf i).toNat)
    case atStart => rfl
    case round =>
      subst hrel
      go_wp2_with fail
      go_ret
      exact ⟨rfl, Up.refl _⟩
theorem cmp_loc (a b : ByteArray) (xs ys : List ByteArray) : (if cmpBy bytesLt a b = 0 then cmpBy subsLt xs ys else cmpBy bytesLt a b) = cmpBy locLt (a, xs) (b, ys) := by
  rcases lo_bytes.three a b with ⟨e1, e2, ne, e4⟩ | ⟨rfl, e1, e2, e4⟩ | ⟨e1, e2, ne, e4⟩
  · rw [e4, if_neg (by decide)]; simp [cmpBy, locLt, thenLt, e1]
  · rw [e4, if_pos rfl]; simp [cmpBy, locLt, thenLt, e1]
  · rw [e4, if_neg (by decide)]; simp [cmpBy, locLt, thenLt, e1, e2]
set_option maxRecDepth 100000 in
set_option maxHeartbeats 4000000 in
theorem c_compareLocations (a b : ByteArray) (xs ys : List ByteArray) (A B : Option Addr) (c d : Nat) (w : World) (h : SRW shS w A c xs) (k : SRW shS w B d ys) (hx : Small xs) (hy : Small ys) (htab : Tab w) :
    Calls Tryz.prog 64 #[.string a, .slice A xs.length c, .string b, .slice B ys.length d] w (RetV (.int .i64 (cmpBy locLt (a, xs) (b, ys))) w) := by
  have HX := Lib.hid hx
  have HY := Lib.hid hy
  clear hx hy
  have HC := Lib.hid (cmp_loc a b xs ys)
  go_enter Tryz.func64, Tryz.ntmps64
  go_wp2_with fail
  refine (c_CompareS a b _).mono ?_
  rintro e w1 ⟨rfl, rfl⟩
  go_wp2_with fail
  refine (c_collateLists xs ys A B c d _ h k HX.out HY.out htab).mono ?_
  rintro e w1 ⟨rfl, u1⟩
  have hbk := Bk.new w1 3 #[.int .i64 (cmpBy bytesLt a b), .int .i64 (cmpBy subsLt xs ys)]
  have co : ∀ W, Bk W w1.heap.size 3 #[.int .i64 (cmpBy bytesLt a b), .int .i64 (cmpBy subsLt xs ys)] → Calls Tryz.prog 112 #[.slice (some ⟨w1.heap.size, 0, none⟩) 2 2] W (RetV (.int .i64 (cmpBy locLt (a, xs) (b, ys))) W) := fun W hW => by
    have := c_cmpOr (cmpBy bytesLt a b) (cmpBy subsLt xs ys) w1.heap.size W hW
    rw [HC.out] at this
    exact this
  generalize cmpBy bytesLt a b = z1 at *
  generalize cmpBy subsLt xs ys = z2 at *
  generalize cmpBy locLt (a, xs) (b, ys) = z3 at *
  have CO := Lib.hid co
  clear co HC
  go_wp2_with fail
  refine (CO.out _ hbk).mono ?_
  rintro e w2 ⟨rfl, u2⟩
  go_wp2_with fail
  go_ret
  exact ⟨rfl, (u1.alloc _).trans u2⟩
theorem c_isLetter (c : UInt8) (w : World) : Calls Tryz.prog 152 #[.int .u8 (c.toNat : Int)] w fun e w' => e = .returned (.bool (isLetter c)) ∧ w = w' := by
  unfold isLetter
  by_cases h1 : 97 ≤ c.toNat
  · by_cases h2 : c.toNat ≤ 122
    · have h1' : (97 : Int) ≤ (c.toNat : Int) := by omega
      have h2' : (c.toNat : Int) ≤ 122 := by omega
      go_enter Tryz.func152, Tryz.ntmps152
      go_wp2
      go_ret
      exact ⟨by simp [h1, h2], rfl⟩
    · have h1' : (97 : Int) ≤ (c.toNat : Int) := by omega
      have h2' : ¬ (c.toNat : Int) ≤ 122 := by omega
      have h3 : ¬ (c.toNat : Int) ≤ 90 := by omega
      have h3' : ¬ c.toNat ≤ 90 := by omega
      go_enter Tryz.func152, Tryz.ntmps152
      go_wp2
      go_ret
      exact ⟨by simp [h1, h2, h3'], rfl⟩
  · have h1' : ¬ (97 : Int) ≤ (c.toNat : Int) := by omega
    by_cases h3 : 65 ≤ c.toNat
    · by_cases h4 : c.toNat ≤ 90
      · have h3' : (65 : Int) ≤ (c.toNat : Int) := by omega
        have h4' : (c.toNat : Int) ≤ 90 := by omega
        go_enter Tryz.func152, Tryz.ntmps152
        go_wp2
        go_ret
        exact ⟨by simp [h1, h3, h4], rfl⟩
      · have h3' : (65 : Int) ≤ (c.toNat : Int) := by omega
        have h4' : ¬ (c.toNat : Int) ≤ 90 := by omega
        go_enter Tryz.func152, Tryz.ntmps152
        go_wp2
        go_ret
        exact ⟨by simp [h1, h3, h4], rfl⟩
    · have h3' : ¬ (65 : Int) ≤ (c.toNat : Int) := by omega
      go_enter Tryz.func152, Tryz.ntmps152
      go_wp2
      go_ret
      exact ⟨by simp [h1, h3], rfl⟩
theorem c_isDigit (c : UInt8) (w : World) : Calls Tryz.prog 153 #[.int .u8 (c.toNat : Int)] w fun e w' => e = .returned (.bool (isDig c)) ∧ w = w' := by
  unfold isDig
  by_cases h1 : 48 ≤ c.toNat
  · have h1' : (48 : Int) ≤ (c.toNat : Int) := by omega
    by_cases h2 : c.toNat ≤ 57
    · have h2' : (c.toNat : Int) ≤ 57 := by omega
      go_enter Tryz.func153, Tryz.ntmps153
      go_wp2
      go_ret
      exact ⟨by simp [h1, h2], rfl⟩
    · have h2' : ¬ (c.toNat : Int) ≤ 57 := by omega
      go_enter Tryz.func153, Tryz.ntmps153
      go_wp2
      go_ret
      exact ⟨by simp [h1, h2], rfl⟩
  · have h1' : ¬ (48 : Int) ≤ (c.toNat : Int) := by omega
    go_enter Tryz.func153, Tryz.ntmps153
    go_wp2
    go_ret
    exact ⟨by simp [h1], rfl⟩
theorem c_isLetterAt (c : UInt8) (z : Int) (w : World) (hz : z = (c.toNat : Int)) : Calls Tryz.prog 152 #[.int .u8 z] w fun e w' => e = .returned (.bool (isLetter c)) ∧ w = w' := by
  subst hz
  exact c_isLetter c w
theorem c_isDigitAt (c : UInt8) (z : Int) (w : World) (hz : z = (c.toNat : Int)) : Calls Tryz.prog 153 #[.int .u8 z] w fun e w' => e = .returned (.bool (isDig c)) ∧ w = w' := by
  subst hz
  exact c_isDigit c w
theorem c_SubOk (s : ByteArray) (w : World) : Calls Tryz.prog 156 #[.string s] w fun e w' => e = .returned (.bool (subB s)) ∧ w = w' := by
  unfold subB
  by_cases h1 : 1 ≤ s.size
  · go_enter Tryz.func156, Tryz.ntmps156
    go_wp2
    go_ret
    exact ⟨by simp [h1]; omega, rfl⟩
  · go_enter Tryz.func156, Tryz.ntmps156
    go_wp2
    go_ret
    exact ⟨by simp [h1], rfl⟩
theorem c_SubsOk1 (s : ByteArray) (w : World) : Calls Tryz.prog 155 #[.string s] w (BoolP (!subB s) w) := by
  go_enter Tryz.func155, Tryz.ntmps155
  go_wp2_with fail
  refine (c_SubOk s _).mono ?_
  rintro e w1 ⟨rfl, rfl⟩
  go_wp2_with fail
  go_ret
  exact ⟨rfl, Up.refl _⟩
theorem any_not_subs (xs : List ByteArray) (h : xs.length ≤ 4) : subsB xs = !(xs.any fun s => !subB s) := by
  cases e : xs.any (fun s => !subB s)
  · refine subsB_t ⟨h, fun i hi => ?_⟩
    rw [List.any_eq_false] at e
    have := e xs[i] (List.getElem_mem hi)
    simpa using this
  · rw [List.any_eq_true] at e
    obtain ⟨x, hx, hp⟩ := e
    obtain ⟨i, hi, rfl⟩ := List.getElem_of_mem hx
    refine subsB_f fun hh => ?_
    have := hh.2 i hi
    rw [this] at hp
    simp at hp
set_option maxHeartbeats 4000000 in
theorem c_SubsOk (xs : List ByteArray) (A : Option Addr) (c : Nat) (w : World) (h : SRW shS w A c xs) :
    Calls Tryz.prog 107 #[.slice A xs.length c] w (RetV (.bool (subsB xs)) w) := by
  have hlen := h.len_le
  have eg : ∀ args w, (callFunc 155 args).run Tryz.prog w = .ok (.enter 155 args) w := enters_of Tryz.func155 (by kernel_rfl) rfl
  by_cases h4 : xs.length ≤ 4
  · have HE := Lib.hid (any_not_subs xs h4)
    have EG := Lib.hid eg
    clear eg
    go_enter Tryz.func107, Tryz.ntmps107
    go_wp2_with fail
    refine (c_ContainsFuncString 155 #[] EG.out (fun s => !subB s) A c xs _ h (fun W x _ _ => c_SubsOk1 x W)).mono ?_
    rintro e w1 ⟨rfl, u1⟩
    generalize (xs.any fun s => !subB s) = b at *
    go_wp2_with fail
    go_ret
    exact ⟨by rw [HE.out]; first | done | rfl, u1⟩
  · have HE := Lib.hid (subsB_f (l := xs) fun hh => h4 hh.1)
    clear eg
    go_enter Tryz.func107, Tryz.ntmps107
    go_wp2_with fail
    go_ret
    exact ⟨by rw [HE.out]; first | done | rfl, Up.refl _⟩
set_option maxRecDepth 100000 in
set_option maxHeartbeats 4000000 in
theorem c_NameOk (s : ByteArray) (w : World) (hs : s.size ≤ maxLen) : Calls Tryz.prog 106 #[.string s] w (RetV (.bool (nameB s)) w) := by
  unfold maxLen at hs
  go_enter Tryz.func106, Tryz.ntmps106
  go_wp2_with fail
  go_loop [3] (fun i => ∃ k : Nat, k ≤ s.size ∧ i = .int .i64 k ∧ Hid (∀ i (h : i < s.size), i < k → chOk i s[i] = true)) (fun i => s.size - (intOf i).toNat)
  case atStart => exact ⟨0, Nat.zero_le _, rfl, fun i h hi => absurd hi (by omega)⟩
  case round =>
    obtain ⟨k, hk, rfl, HA⟩ := hrel
    by_cases hlt : k < s.size
    · cases hk2 : chOk k s[k]
      · have H := Lib.hid (nameB_f (s := s) fun h => by have := h.2.2 k hlt; rw [hk2] at this; cases this)
        by_cases hk0 : k = 0
        · subst hk0
          have hk3 : isLetter s[0] = false ∧ s[0] ≠ 37 := by simpa [chOk] using hk2
          have b37 := u8_nb 37 rfl hk3.2
          have n37 := u8_nn 37 rfl hk3.2
          have hk4 := hk3.1
          clear hk2 hk3
          go_wp2_with (first | (go_at_call 152; refine (c_isLetterAt s[0] _ _ rfl).mono ?_; rintro e w1 ⟨rfl, rfl⟩; rw [hk4]))
          go_ret
          exact retB (Lib.hid H.out.symm) (Up.refl _)
        · have hk3 : isLetter s[k] = false ∧ isDig s[k] = false := by simpa [chOk, hk0] using hk2
          obtain ⟨hk4, hk5⟩ := hk3
          have hki : ¬ (k : Int) = 0 := by omega
          have hkb : ((k : Int) == 0) = false := by simpa using hk0
          clear hk2
          go_wp2_with (first | (go_at_call 152; refine (c_isLetterAt s[k] _ _ rfl).mono ?_; rintro e w1 ⟨rfl, rfl⟩; rw [hk4]) | (go_at_call 153; refine (c_isDigitAt s[k] _ _ rfl).mono ?_; rintro e w1 ⟨rfl, rfl⟩; rw [hk5]))
          go_ret
          exact retB (Lib.hid H.out.symm) (Up.refl _)
      · have HN : Hid (∀ i (h : i < s.size), i < k + 1 → chOk i s[i] = true) := fun i h hi => by
          by_cases e : i = k
          · subst e; exact hk2
          · exact HA.out i h (by omega)
        cases hL : isLetter s[k]
        · by_cases hk0 : k = 0
          · subst hk0
            have h37 : s[0] = 37 := by simpa [chOk, hL] using hk2
            have e37 := u8_yb 37 rfl h37
            have HZ := Lib.hid (show (37 : Int) = (s[0].toNat : Int) from e37.symm)
            clear hk2 h37
            go_wp2_with (first | (go_at_call 152; refine (c_isLetterAt s[0] _ _ (by first | rfl | exact HZ.out)).mono ?_; rintro e w1 ⟨rfl, rfl⟩; rw [hL]))
            go_round
            case rel => exact ⟨1, by omega, by first | rfl | go_num, HN⟩
            case measure => simp [intOf]; omega
          · have hd : isDig s[k] = true := by simpa [chOk, hk0, hL] using hk2
            have hki : ¬ (k : Int) = 0 := by omega
            have hkb : ((k : Int) == 0) = false := by simpa using hk0
            clear hk2
            go_wp2_with (first | (go_at_call 152; refine (c_isLetterAt s[k] _ _ rfl).mono ?_; rintro e w1 ⟨rfl, rfl⟩; rw [hL]) | (go_at_call 153; refine (c_isDigitAt s[k] _ _ rfl).mono ?_; rintro e w1 ⟨rfl, rfl⟩; rw [hd]))
            go_round
            case rel => exact ⟨k + 1, by omega, by go_num, HN⟩
            case measure => simp [intOf]; omega
        · clear hk2
          go_wp2_with (first | (go_at_call 152; refine (c_isLetterAt s[k] _ _ rfl).mono ?_; rintro e w1 ⟨rfl, rfl⟩; rw [hL]))
          go_round
          case rel => exact ⟨k + 1, by omega, by go_num, HN⟩
          case measure => simp [intOf]; omega
    · obtain rfl : k = s.size := by omega
      by_cases h1 : 1 ≤ s.size
      · by_cases h2 : s.size ≤ 8
        · have H := Lib.hid (nameB_t (s := s) ⟨h1, h2, fun i h => HA.out i h h⟩)
          go_wp2_with fail
          go_ret
          exact ⟨by rw [H.out]; first | done | rfl | (simp; omega), Up.refl _⟩
        · have H := Lib.hid (nameB_f (s := s) fun h => h2 h.2.1)
          go_wp2_with fail
          go_ret
          exact ⟨by rw [H.out]; first | done | rfl | (simp; omega), Up.refl _⟩
      · have H := Lib.hid (nameB_f (s := s) fun h => h1 h.1)
        go_wp2_with fail
        go_ret
        exact ⟨by rw [H.out]; first | done | rfl | (simp; omega), Up.refl _⟩
theorem c_locationOk (s : ByteArray) (xs : List ByteArray) (A : Option Addr) (c : Nat) (w : World) (hs : s.size ≤ maxLen) (h : SRW shS w A c xs) :
    Calls Tryz.prog 57 #[.string s, .slice A xs.length c] w (RetV (.bool (placeB s xs)) w) := by
  unfold placeB
  cases hn : nameB s
  · go_enter Tryz.func57, Tryz.ntmps57
    go_wp2_with fail
    refine (c_NameOk s _ hs).mono ?_
    rintro e w1 ⟨rfl, u1⟩
    rw [hn]
    go_wp2_with fail
    go_ret
    exact ⟨rfl, u1⟩
  · go_enter Tryz.func57, Tryz.ntmps57
    go_wp2_with fail
    refine (c_NameOk s _ hs).mono ?_
    rintro e w1 ⟨rfl, u1⟩
    rw [hn]
    go_wp2_with fail
    refine (c_SubsOk xs A c _ (h.up good_S u1)).mono ?_
    rintro e w2 ⟨rfl, u2⟩
    go_wp2_with fail
    go_ret
    exact ⟨by simp, u1.trans u2⟩
end Go.Proofs.YtanjmolgpkffoaaGreatDoor

namespace Go.Proofs.YtanjmolgpkffoaaGreatDoor
open Go.RowKit
set_option linter.unusedVariables false
set_option linter.unusedSimpArgs false

end Go.Proofs.YtanjmolgpkffoaaGreatDoor
