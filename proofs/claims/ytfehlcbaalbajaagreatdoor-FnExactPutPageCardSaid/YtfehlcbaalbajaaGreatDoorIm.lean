/-
  Images: what both sides ask of them; the program's side.
-/
import Derived.Test.YtfehlcbaalbajaaGreatDoorIo
namespace Go.Proofs.YtfehlcbaalbajaaGreatDoor
open Go.RowKit
set_option linter.unusedVariables false
set_option linter.unusedSimpArgs false

def imgB (x : TImage) : Bool := placeB x.1 x.2.1 && !(decide (64 < x.2.2.2.1.size) || decide (64 < x.2.2.2.2.2.size)) && (x.2.2.1 || x.2.2.2.1.toList.isEmpty) && (x.2.2.2.2.1 || x.2.2.2.2.2.toList.isEmpty) && !(x.2.2.1 == x.2.2.2.2.1 && x.2.2.2.1.toList == x.2.2.2.2.2.toList)
def ImagesP (l : List TImage) : Prop := l.length ≤ 240 ∧ ∀ i (h : i < l.length), imgB l[i] = true ∧ (0 < i → locLt (l[i - 1].1, l[i - 1].2.1) (l[i].1, l[i].2.1) = true)
instance (l : List TImage) : Decidable (ImagesP l) := by unfold ImagesP; infer_instance
def imagesB (l : List TImage) : Bool := decide (ImagesP l)
theorem imagesB_t {l : List TImage} (h : ImagesP l) : imagesB l = true := decide_eq_true h
theorem imagesB_f {l : List TImage} (h : ¬ ImagesP l) : imagesB l = false := decide_eq_false h
theorem SR_two {w : World} {g : Nat} {t : TypeId} {a b : ByteArray} (hb : Bk w g t #[.string a, .string b]) (ha : a.size ≤ maxLen) (hb' : b.size ≤ maxLen) : SRW shS w (some ⟨g, 0, none⟩) 2 [a, b] := by
  refine ⟨by simp, by unfold maxLen; decide, fun _ => ⟨g, 0, rfl, Nat.zero_le _, hb.lt, fun i hi => ?_⟩⟩
  have hi2 : i = 0 ∨ i = 1 := by simp at hi; omega
  rcases hi2 with rfl | rfl
  · refine ⟨[.string a], ⟨rfl, fun j hj => ?_⟩, rfl, ha⟩
    obtain rfl : j = 0 := by have : j < 1 := hj; omega
    exact hb.cell 0
  · refine ⟨[.string b], ⟨rfl, fun j hj => ?_⟩, rfl, hb'⟩
    obtain rfl : j = 0 := by have : j < 1 := hj; omega
    exact hb.cell 1
theorem c_long1 (s : ByteArray) (w : World) : Calls Tryz.prog 170 #[.string s] w (BoolP (decide (64 < s.size)) w) := by
  go_enter Tryz.func170, Tryz.ntmps170
  go_wp2_with fail
  go_ret
  exact ⟨by first | rfl | (simp; omega), Up.refl _⟩
set_option maxHeartbeats 4000000 in
theorem c_long (xs : List ByteArray) (n : Int) (hn : n = xs.length) (A : Option Addr) (c : Nat) (w : World) (h : SRW shS w A c xs) :
    Calls Tryz.prog 138 #[.slice A xs.length c] w (RetV (.bool (xs.any fun s => decide (64 < s.size))) w) := by
  have eg : ∀ args w, (callFunc 170 args).run Tryz.prog w = .ok (.enter 170 args) w := enters_of Tryz.func170 (by kernel_rfl) rfl
  have EG := Lib.hid eg
  clear eg
  go_enter Tryz.func138, Tryz.ntmps138
  go_wp2_with fail
  refine (c_ContainsFuncString 170 #[] EG.out (fun s => decide (64 < s.size)) A c xs _ h (fun W x _ _ => c_long1 x W)).mono ?_
  rintro e w1 ⟨rfl, u1⟩
  obtain ⟨b, hb⟩ : ∃ b, b = (xs.any fun s => decide (64 < s.size)) := ⟨_, rfl⟩
  rw [← hb]
  have HB := Lib.hid hb
  clear hb
  go_wp2_with fail
  go_ret
  exact ⟨by rw [← HB.out]; first | done | rfl, u1⟩
theorem c_long2 (a b : ByteArray) (g : Nat) (w : World) (hb : Bk w g 9 #[.string a, .string b]) (ha : a.size ≤ maxLen) (hb' : b.size ≤ maxLen) :
    Calls Tryz.prog 138 #[.slice (some ⟨g, 0, none⟩) 2 2] w (RetV (.bool (decide (64 < a.size) || decide (64 < b.size))) w) := by
  have := c_long [a, b] 2 rfl _ 2 w (SR_two hb ha hb')
  simpa using this
end Go.Proofs.YtfehlcbaalbajaaGreatDoor
