/-
  Copies of nodes and trees: the program's copyNode, copyTree; the reference's l03Subs, l03Own.
  The reference's copies: l03Subs, l03Own.
  KeyPlace, both; isKey.
  Keys of pages: keysOk, l15Keys.
  Images: what both sides ask of them; the program's side.
-/
import Derived.Test.YtanjmolgpkffoaaGreatDoorM1G
import Derived.Test.YtanjmolgpkffoaaGreatDoorM1F
import Derived.Deep.RegionHeld3
import Derived.Lib.IndexMore
import Derived.Test.YtanjmolgpkffoaaGreatDoorM1E
namespace Go.Proofs.YtanjmolgpkffoaaGreatDoor
open Go.RowKit
set_option linter.unusedVariables false
set_option linter.unusedSimpArgs false

end Go.Proofs.YtanjmolgpkffoaaGreatDoor

namespace Go.Proofs.YtanjmolgpkffoaaGreatDoor
open Go.RowKit
set_option linter.unusedVariables false
set_option linter.unusedSimpArgs false

end Go.Proofs.YtanjmolgpkffoaaGreatDoor

namespace Go.Proofs.YtanjmolgpkffoaaGreatDoor
open Go.RowKit
set_option linter.unusedVariables false
set_option linter.unusedSimpArgs false

end Go.Proofs.YtanjmolgpkffoaaGreatDoor

namespace Go.Proofs.YtanjmolgpkffoaaGreatDoor
open Go.RowKit
set_option linter.unusedVariables false
set_option linter.unusedSimpArgs false

def KeysP (l : List ByteArray) : Prop := ∀ i (h : i < l.length), keyB l[i] = true ∧ (0 < i → bytesLt (l[i - 1]'(by omega)) l[i] = true)
instance (l : List ByteArray) : Decidable (KeysP l) := by unfold KeysP; infer_instance
--@begin f{impl.keysOk}
--@begin f{spec.l15Keys}
end Go.Proofs.YtanjmolgpkffoaaGreatDoor

namespace Go.Proofs.YtanjmolgpkffoaaGreatDoor
open Go.RowKit
set_option linter.unusedVariables false
set_option linter.unusedSimpArgs false

def imgB (x : TImage) : Bool := placeB x.1 x.2.1 && !(decide (64 < x.2.2.2.1.size) || decide (64 < x.2.2.2.2.2.size)) && (x.2.2.1 || x.2.2.2.1.toList.isEmpty) && (x.2.2.2.2.1 || x.2.2.2.2.2.toList.isEmpty) && !(x.2.2.1 == x.2.2.2.2.1 && x.2.2.2.1.toList == x.2.2.2.2.2.toList)
def ImagesP (l : List TImage) : Prop := l.length ≤ 240 ∧ ∀ i (h : i < l.length), imgB l[i] = true ∧ (0 < i → locLt (l[i - 1].1, l[i - 1].2.1) (l[i].1, l[i].2.1) = true)
instance (l : List TImage) : Decidable (ImagesP l) := by unfold ImagesP; infer_instance
def imagesB (l : List TImage) : Bool := decide (ImagesP l)
theorem imagesB_t {l : List TImage} (h : ImagesP l) : imagesB l = true := decide_eq_true h
theorem imagesB_f {l : List TImage} (h : ¬ ImagesP l) : imagesB l = false := decide_eq_false h
theorem SR_two {w : World} {g : Nat} {t : TypeId} {a b : ByteArray} (hb : Bk w g t #[.string a, .string b]) (ha : a.size ≤ maxLen) (hb' : b.size ≤ maxLen) : SRW shS w (some ⟨g, 0, none⟩) 2 [a, b] := by
  refine ⟨by simp, by unfold maxLen; decide, fun _ => ⟨g, 0, rfl, Nat.zero_le _, hb.lt, fun i hi => ?_⟩⟩
  have hi2 : i = 0 ∨ i = 1 := by simp at hi; omega
  rcases hi2 with rfl | rfl
  · refine ⟨[.string a], ⟨rfl, fun j hj => ?_⟩, rfl, ha⟩
    obtain rfl : j = 0 := by have : j < 1 := hj; omega
    exact hb.cell 0
  · refine ⟨[.string b], ⟨rfl, fun j hj => ?_⟩, rfl, hb'⟩
    obtain rfl : j = 0 := by have : j < 1 := hj; omega
    exact hb.cell 1
theorem c_long1 (s : ByteArray) (w : World) : Calls Tryz.prog 160 #[.string s] w (BoolP (decide (64 < s.size)) w) := by
  go_enter Tryz.func160, Tryz.ntmps160
  go_wp2_with fail
  go_ret
  exact ⟨by first | rfl | (simp; omega), Up.refl _⟩
set_option maxHeartbeats 4000000 in
theorem c_long (xs : List ByteArray) (n : Int) (hn : n = xs.length) (A : Option Addr) (c : Nat) (w : World) (h : SRW shS w A c xs) :
    Calls Tryz.prog 111 #[.slice A xs.length c] w (RetV (.bool (xs.any fun s => decide (64 < s.size))) w) := by
  have eg : ∀ args w, (callFunc 160 args).run Tryz.prog w = .ok (.enter 160 args) w := enters_of Tryz.func160 (by kernel_rfl) rfl
  have EG := Lib.hid eg
  clear eg
  go_enter Tryz.func111, Tryz.ntmps111
  go_wp2_with fail
  refine (c_ContainsFuncString 160 #[] EG.out (fun s => decide (64 < s.size)) A c xs _ h (fun W x _ _ => c_long1 x W)).mono ?_
  rintro e w1 ⟨rfl, u1⟩
  obtain ⟨b, hb⟩ : ∃ b, b = (xs.any fun s => decide (64 < s.size)) := ⟨_, rfl⟩
  rw [← hb]
  have HB := Lib.hid hb
  clear hb
  go_wp2_with fail
  go_ret
  exact ⟨by rw [← HB.out]; first | done | rfl, u1⟩
theorem c_long2 (a b : ByteArray) (g : Nat) (w : World) (hb : Bk w g 9 #[.string a, .string b]) (ha : a.size ≤ maxLen) (hb' : b.size ≤ maxLen) :
    Calls Tryz.prog 111 #[.slice (some ⟨g, 0, none⟩) 2 2] w (RetV (.bool (decide (64 < a.size) || decide (64 < b.size))) w) := by
  have := c_long [a, b] 2 rfl _ 2 w (SR_two hb ha hb')
  simpa using this
set_option maxRecDepth 100000 in
set_option maxHeartbeats 8000000 in
theorem c_imageOk (x : TImage) (v : Value) (w : World) (h : AV shImage w v x) : Calls Tryz.prog 63 #[v] w (RetV (.bool (imgB x)) w) := by
  obtain ⟨cs, rfl, h⟩ := h
  obtain ⟨A1, c1, rfl, b0, b1, b3, b5⟩ := openImage h
  obtain ⟨x0, x1, x2, x3, x4, x5⟩ := x
  simp only at b0 b1 b3 b5
  clear h
  have hv : imgB (x0, x1, x2, x3, x4, x5) = (placeB x0 x1 && !(decide (64 < x3.size) || decide (64 < x5.size)) && (x2 || x3.toList.isEmpty) && (x4 || x5.toList.isEmpty) && !(x2 == x4 && x3.toList == x5.toList)) := rfl
  have k0 := Bk.new w 98 #[.string x0, .slice A1 x1.length c1, .bool x2, .string x3, .bool x4, .string x5]
  have u0 : Up w (w.alloc (.cells #[.string x0, .slice A1 x1.length c1, .bool x2, .string x3, .bool x4, .string x5] 98)) := (Up.refl w).alloc _
  cases hp : placeB x0 x1
  · have H := Lib.hid (show imgB (x0, x1, x2, x3, x4, x5) = false by rw [hv, hp]; rfl)
    clear hv
    go_enter Tryz.func63, Tryz.ntmps63
    go_wp2_with fail
    refine (c_locationOk x0 x1 A1 c1 _ b0 (b1.up good_S u0)).mono ?_
    rintro e w1 ⟨rfl, u1⟩
    rw [hp]
    go_wp2_with fail
    go_ret
    exact ⟨by rw [H.out]; first | done | rfl, u0.trans u1⟩
  · cases hl : (decide (64 < x3.size) || decide (64 < x5.size))
    · cases x2 <;> cases x4 <;> cases hw : x3.toList.isEmpty <;> cases hi : x5.toList.isEmpty <;> cases he : (x3.toList == x5.toList)
      all_goals
        have H := Lib.hid (hv.trans (by rw [hp, hl, hw, hi, he]))
        clear hv
        have cL := fun (g : Nat) (W : World) (hb : Bk W g 9 #[.string x3, .string x5]) => c_long2 x3 x5 g W hb b3 b5
        rw [hl] at cL
        have CL := Lib.hid cL
        clear cL hl
        go_enter Tryz.func63, Tryz.ntmps63
        go_wp2_with fail
        refine (c_locationOk x0 x1 A1 c1 _ b0 (b1.up good_S u0)).mono ?_
        rintro e w1 ⟨rfl, u1⟩
        rw [hp]
        have k1 := k0.up u1
        have uu := u0.trans u1
        have g2 : w1.cell? ⟨w.heap.size, 2, none⟩ = some (.bool _) := k1.cell 2
        have g3 : w1.cell? ⟨w.heap.size, 3, none⟩ = some (.string x3) := k1.cell 3
        have g4 : w1.cell? ⟨w.heap.size, 4, none⟩ = some (.bool _) := k1.cell 4
        have g5 : w1.cell? ⟨w.heap.size, 5, none⟩ = some (.string x5) := k1.cell 5
        have z1 := k1.lt
        go_wp2_with fail
        refine (CL.out w1.heap.size _ (Bk.new _ _ _)).mono ?_
        rintro e w2 ⟨rfl, u2⟩
        have k2 := (k1.alloc (.cells #[.string x3, .string x5] 9)).up u2
        have uu2 := (uu.alloc _).trans u2
        have g2 : w2.cell? ⟨w.heap.size, 2, none⟩ = some (.bool _) := k2.cell 2
        have g3 : w2.cell? ⟨w.heap.size, 3, none⟩ = some (.string x3) := k2.cell 3
        have g4 : w2.cell? ⟨w.heap.size, 4, none⟩ = some (.bool _) := k2.cell 4
        have g5 : w2.cell? ⟨w.heap.size, 5, none⟩ = some (.string x5) := k2.cell 5
        go_wp2_with fail
        go_ret
        exact ⟨by rw [H.out]; first | done | rfl, uu2⟩
    · have H := Lib.hid (show imgB (x0, x1, x2, x3, x4, x5) = false by rw [hv, hp, hl]; rfl)
      clear hv
      have cL := fun (g : Nat) (W : World) (hb : Bk W g 9 #[.string x3, .string x5]) => c_long2 x3 x5 g W hb b3 b5
      rw [hl] at cL
      have CL := Lib.hid cL
      clear cL hl
      go_enter Tryz.func63, Tryz.ntmps63
      go_wp2_with fail
      refine (c_locationOk x0 x1 A1 c1 _ b0 (b1.up good_S u0)).mono ?_
      rintro e w1 ⟨rfl, u1⟩
      rw [hp]
      have k1 := k0.up u1
      have uu := u0.trans u1
      have g3 : w1.cell? ⟨w.heap.size, 3, none⟩ = some (.string x3) := k1.cell 3
      have g5 : w1.cell? ⟨w.heap.size, 5, none⟩ = some (.string x5) := k1.cell 5
      have z1 := k1.lt
      go_wp2_with fail
      refine (CL.out w1.heap.size _ (Bk.new _ _ _)).mono ?_
      rintro e w2 ⟨rfl, u2⟩
      go_wp2_with fail
      go_ret
      exact ⟨by rw [H.out]; first | done | rfl, (uu.alloc _).trans u2⟩
end Go.Proofs.YtanjmolgpkffoaaGreatDoor
