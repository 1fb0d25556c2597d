/-
  NoteDirty: the reference's and the program's give one cache in new memory, and a code.
-/
import Derived.Test.YtfehlcbaalbajaaGreatNu
import Derived.Test.YtfehlcbaalbajaaGreatCd
namespace Go.Proofs.YtfehlcbaalbajaaGreat
open Go.RowKit
set_option linter.unusedVariables false
set_option linter.unusedSimpArgs false

def noteOk (x : TCache) (ids : List Int) : Bool := cacheOk x && allIn ids 1 64 && decide (ids.length ≤ 64)
def noteV (x : TCache) (ids : List Int) : TCache := if noteOk x ids = true then noteC x (putsI x.2.2.2.2 ids) else zeroC
def noteK (x : TCache) (ids : List Int) : Int := if noteOk x ids = true then 0 else 1
theorem note_no {x : TCache} {ids : List Int} (h : noteOk x ids = false) : noteV x ids = zeroC ∧ noteK x ids = 1 := by unfold noteV noteK; rw [h]; exact ⟨rfl, rfl⟩
theorem note_yes {x : TCache} {ids : List Int} (h : noteOk x ids = true) : noteV x ids = noteC x (putsI x.2.2.2.2 ids) ∧ noteK x ids = 0 := by unfold noteV noteK; rw [h]; exact ⟨rfl, rfl⟩
theorem ris_pair {l : List Int} (h : risB l = true) : l.Pairwise (· < ·) := by
  have hs : ∀ k (h1 : k + 1 < l.length), l[k] < l[k + 1] := fun k h1 => by
    cases hb : upAt l (k + 1) with
    | false => rw [ris_bad l (k + 1) h1 hb] at h; cases h
    | true =>
      unfold upAt at hb
      simp [h1, (by omega : k < l.length)] at hb
      exact hb
  rw [List.pairwise_iff_getElem]
  intro i j hi hj hij
  have : ∀ d (hd : i + 1 + d < l.length), l[i] < l[i + 1 + d] := by
    intro d
    induction d with
    | zero => intro hd; exact hs i hd
    | succ d ih =>
      intro hd
      have h1 := ih (by omega)
      have h2 := hs (i + 1 + d) hd
      exact Int.lt_trans h1 h2
  have h3 := this (j - (i + 1)) (by omega)
  have e : i + 1 + (j - (i + 1)) = j := by omega
  simpa [e] using h3
theorem cache_ris {x : TCache} (h : cacheOk x = true) : x.2.2.2.2.Pairwise (· < ·) := by
  simp only [cacheOk, Bool.and_eq_true] at h
  exact ris_pair h.2.1
theorem cells13 {W : World} {g : Nat} {t : TypeId} {v0 v1 v2 v3 v4 v5 v6 v7 v8 v9 v10 v11 v12 : Value} (h : Bk W g t #[v0, v1, v2, v3, v4, v5, v6, v7, v8, v9, v10, v11, v12]) : W.cell? ⟨g, 0, none⟩ = some v0 ∧ W.cell? ⟨g, 1, none⟩ = some v1 ∧ W.cell? ⟨g, 2, none⟩ = some v2 ∧ W.cell? ⟨g, 3, none⟩ = some v3 ∧ W.cell? ⟨g, 4, none⟩ = some v4 ∧ W.cell? ⟨g, 5, none⟩ = some v5 ∧ W.cell? ⟨g, 6, none⟩ = some v6 ∧ W.cell? ⟨g, 7, none⟩ = some v7 ∧ W.cell? ⟨g, 8, none⟩ = some v8 ∧ W.cell? ⟨g, 9, none⟩ = some v9 ∧ W.cell? ⟨g, 10, none⟩ = some v10 ∧ W.cell? ⟨g, 11, none⟩ = some v11 ∧ W.cell? ⟨g, 12, none⟩ = some v12 :=
  ⟨h.cell 0, h.cell 1, h.cell 2, h.cell 3, h.cell 4, h.cell 5, h.cell 6, h.cell 7, h.cell 8, h.cell 9, h.cell 10, h.cell 11, h.cell 12⟩
theorem own_butN {α : Type} {s : Sh α} (hg : Good s) {w w' : World} {lo g : Nat} {cs : List Value} {x : α} {bl : List Nat} (h : s.own w lo w.heap.size cs x bl) (b : But g w w') (hn : g ∉ bl) : s.own w' lo w'.heap.size cs x bl := by
  rw [b.size]
  exact hg.own_keep h (fun x hx => b.block x (fun e => hn (e ▸ hx)))

set_option maxRecDepth 100000 in
set_option maxHeartbeats 16000000 in
theorem c_l18Own (v : Value) (x : TCache) (w : World) (h : AV shCache w v x) (hn : shCache.sz x ≤ 1048576) : Calls Tryz.prog 20 #[v] w (ToV shCache x w) := by
  obtain ⟨cs, rfl, h⟩ := h
  obtain ⟨A1, c1, A2, c2, A6, c6, A10, c10, A11, c11, A12, c12, rfl, b0, b1, b2, b3, b4, b5, b6, b7, b8, b9, b10, b11, b12⟩ := openCache h
  clear h
  obtain ⟨ns1, ns6, ns10, ns11, ns12⟩ := cache_sz hn
  obtain ⟨i2, hi2, hz0, hz1, hz2⟩ := info_parts cinfo_SeatS
  have uu0 : Up w ((w.alloc (.cells #[.int .i64 x.1.1, .slice A1 x.1.2.1.length c1, .slice A2 x.1.2.2.length c2, .int .i64 x.2.1.1, .int .i64 x.2.1.2.1, .int .i64 x.2.1.2.2.1, .slice A6 x.2.1.2.2.2.length c6, .int .i64 x.2.2.1.1, .int .i64 x.2.2.1.2.1, .int .i64 x.2.2.1.2.2.1, .slice A10 x.2.2.1.2.2.2.length c10, .slice A11 x.2.2.2.1.length c11, .slice A12 x.2.2.2.2.length c12] 40)).alloc (.cells #[.int .i64 0, .slice none 0 0, .slice none 0 0, .int .i64 0, .int .i64 0, .int .i64 0, .slice none 0 0, .int .i64 0, .int .i64 0, .int .i64 0, .slice none 0 0, .slice none 0 0, .slice none 0 0] 40)) := ((Up.refl _).alloc _).alloc _
  have ka0 : Bk ((w.alloc (.cells #[.int .i64 x.1.1, .slice A1 x.1.2.1.length c1, .slice A2 x.1.2.2.length c2, .int .i64 x.2.1.1, .int .i64 x.2.1.2.1, .int .i64 x.2.1.2.2.1, .slice A6 x.2.1.2.2.2.length c6, .int .i64 x.2.2.1.1, .int .i64 x.2.2.1.2.1, .int .i64 x.2.2.1.2.2.1, .slice A10 x.2.2.1.2.2.2.length c10, .slice A11 x.2.2.2.1.length c11, .slice A12 x.2.2.2.2.length c12] 40)).alloc (.cells #[.int .i64 0, .slice none 0 0, .slice none 0 0, .int .i64 0, .int .i64 0, .int .i64 0, .slice none 0 0, .int .i64 0, .int .i64 0, .int .i64 0, .slice none 0 0, .slice none 0 0, .slice none 0 0] 40)) w.heap.size 40 #[.int .i64 x.1.1, .slice A1 x.1.2.1.length c1, .slice A2 x.1.2.2.length c2, .int .i64 x.2.1.1, .int .i64 x.2.1.2.1, .int .i64 x.2.1.2.2.1, .slice A6 x.2.1.2.2.2.length c6, .int .i64 x.2.2.1.1, .int .i64 x.2.2.1.2.1, .int .i64 x.2.2.1.2.2.1, .slice A10 x.2.2.1.2.2.2.length c10, .slice A11 x.2.2.2.1.length c11, .slice A12 x.2.2.2.2.length c12] := (Bk.new _ _ _).alloc _
  have kr0 : Bk ((w.alloc (.cells #[.int .i64 x.1.1, .slice A1 x.1.2.1.length c1, .slice A2 x.1.2.2.length c2, .int .i64 x.2.1.1, .int .i64 x.2.1.2.1, .int .i64 x.2.1.2.2.1, .slice A6 x.2.1.2.2.2.length c6, .int .i64 x.2.2.1.1, .int .i64 x.2.2.1.2.1, .int .i64 x.2.2.1.2.2.1, .slice A10 x.2.2.1.2.2.2.length c10, .slice A11 x.2.2.2.1.length c11, .slice A12 x.2.2.2.2.length c12] 40)).alloc (.cells #[.int .i64 0, .slice none 0 0, .slice none 0 0, .int .i64 0, .int .i64 0, .int .i64 0, .slice none 0 0, .int .i64 0, .int .i64 0, .int .i64 0, .slice none 0 0, .slice none 0 0, .slice none 0 0] 40)) (w.heap.size + 1) 40 #[.int .i64 0, .slice none 0 0, .slice none 0 0, .int .i64 0, .int .i64 0, .int .i64 0, .slice none 0 0, .int .i64 0, .int .i64 0, .int .i64 0, .slice none 0 0, .slice none 0 0, .slice none 0 0] := by simpa using Bk.new (w.alloc (.cells #[.int .i64 x.1.1, .slice A1 x.1.2.1.length c1, .slice A2 x.1.2.2.length c2, .int .i64 x.2.1.1, .int .i64 x.2.1.2.1, .int .i64 x.2.1.2.2.1, .slice A6 x.2.1.2.2.2.length c6, .int .i64 x.2.2.1.1, .int .i64 x.2.2.1.2.1, .int .i64 x.2.2.1.2.2.1, .slice A10 x.2.2.1.2.2.2.length c10, .slice A11 x.2.2.2.1.length c11, .slice A12 x.2.2.2.2.length c12] 40)) 40 #[.int .i64 0, .slice none 0 0, .slice none 0 0, .int .i64 0, .int .i64 0, .int .i64 0, .slice none 0 0, .int .i64 0, .int .i64 0, .int .i64 0, .slice none 0 0, .slice none 0 0, .slice none 0 0]
  have C1 := Lib.hid (fun W (hW : Up w W) => c_l17Own (.agg #[.int .i64 x.1.1, .slice A1 x.1.2.1.length c1, .slice A2 x.1.2.2.length c2]) x.1 W ⟨_, rfl, mkDisk (x := x.1) b0 (b1.up good_S hW) (b2.up good_Put hW)⟩ ns1)
  have C2 := Lib.hid (fun W (hW : Up w W) => c_l18OwnTop (.agg #[.int .i64 x.2.1.1, .int .i64 x.2.1.2.1, .int .i64 x.2.1.2.2.1, .slice A6 x.2.1.2.2.2.length c6]) x.2.1 W ⟨_, rfl, mkTop (x := x.2.1) b3 b4 b5 (b6.up good_Seat hW)⟩ ns6)
  have C3 := Lib.hid (fun W (hW : Up w W) => c_l18OwnTop (.agg #[.int .i64 x.2.2.1.1, .int .i64 x.2.2.1.2.1, .int .i64 x.2.2.1.2.2.1, .slice A10 x.2.2.1.2.2.2.length c10]) x.2.2.1 W ⟨_, rfl, mkTop (x := x.2.2.1) b7 b8 b9 (b10.up good_Seat hW)⟩ ns10)
  have C5 := Lib.hid (fun W (hW : Up w W) => c_l00Own x.2.2.2.2 A12 c12 W (b12.up good_I hW) ns12)
  go_enter Tryz.func20, Tryz.ntmps20
  go_wp2_with fail
  go_region_held3 (fun W => W.cell? ⟨w.heap.size, 0, none⟩ = some (.int .i64 x.1.1) ∧ W.cell? ⟨w.heap.size, 1, none⟩ = some (.slice A1 x.1.2.1.length c1) ∧ W.cell? ⟨w.heap.size, 2, none⟩ = some (.slice A2 x.1.2.2.length c2) ∧ W.cell? ⟨w.heap.size, 3, none⟩ = some (.int .i64 x.2.1.1) ∧ W.cell? ⟨w.heap.size, 4, none⟩ = some (.int .i64 x.2.1.2.1) ∧ W.cell? ⟨w.heap.size, 5, none⟩ = some (.int .i64 x.2.1.2.2.1) ∧ W.cell? ⟨w.heap.size, 6, none⟩ = some (.slice A6 x.2.1.2.2.2.length c6) ∧ W.cell? ⟨w.heap.size, 7, none⟩ = some (.int .i64 x.2.2.1.1) ∧ W.cell? ⟨w.heap.size, 8, none⟩ = some (.int .i64 x.2.2.1.2.1) ∧ W.cell? ⟨w.heap.size, 9, none⟩ = some (.int .i64 x.2.2.1.2.2.1) ∧ W.cell? ⟨w.heap.size, 10, none⟩ = some (.slice A10 x.2.2.1.2.2.2.length c10) ∧ W.cell? ⟨w.heap.size, 11, none⟩ = some (.slice A11 x.2.2.2.1.length c11) ∧ W.cell? ⟨w.heap.size, 12, none⟩ = some (.slice A12 x.2.2.2.2.length c12)) (first | (refine cells13 (t := 40) ?_; first | with_reducible exact ka0 | with_reducible exact ka1 | with_reducible exact ka2 | with_reducible exact ka3 | with_reducible exact ka4 | with_reducible exact ka5 | with_reducible exact ka0.drew | with_reducible exact ka0.drew.alloc _ | with_reducible exact (ka0.alloc _).drew | with_reducible exact ka1.alloc _ | with_reducible exact ka2.alloc _ | with_reducible exact ka3.alloc _) | (have q : Bk (((((((((((((w5.setCell ⟨w.heap.size + 1, 0, none⟩ (.int .i64 x.1.1)).setCell ⟨w.heap.size + 1, 1, none⟩ (.slice D1 x.1.2.1.length d1)).setCell ⟨w.heap.size + 1, 2, none⟩ (.slice D2 x.1.2.2.length d2)).setCell ⟨w.heap.size + 1, 3, none⟩ (.int .i64 x.2.1.1)).setCell ⟨w.heap.size + 1, 4, none⟩ (.int .i64 x.2.1.2.1)).setCell ⟨w.heap.size + 1, 5, none⟩ (.int .i64 x.2.1.2.2.1)).setCell ⟨w.heap.size + 1, 6, none⟩ (.slice D6 x.2.1.2.2.2.length d6)).setCell ⟨w.heap.size + 1, 7, none⟩ (.int .i64 x.2.2.1.1)).setCell ⟨w.heap.size + 1, 8, none⟩ (.int .i64 x.2.2.1.2.1)).setCell ⟨w.heap.size + 1, 9, none⟩ (.int .i64 x.2.2.1.2.2.1)).setCell ⟨w.heap.size + 1, 10, none⟩ (.slice D10 x.2.2.1.2.2.2.length d10)).setCell ⟨w.heap.size + 1, 11, none⟩ (.slice D11 x.2.2.2.1.length d11)).setCell ⟨w.heap.size + 1, 12, none⟩ (.slice D12 x.2.2.2.2.length d12)) w.heap.size 40 #[.int .i64 x.1.1, .slice A1 x.1.2.1.length c1, .slice A2 x.1.2.2.length c2, .int .i64 x.2.1.1, .int .i64 x.2.1.2.1, .int .i64 x.2.1.2.2.1, .slice A6 x.2.1.2.2.2.length c6, .int .i64 x.2.2.1.1, .int .i64 x.2.2.1.2.1, .int .i64 x.2.2.1.2.2.1, .slice A10 x.2.2.1.2.2.2.length c10, .slice A11 x.2.2.2.1.length c11, .slice A12 x.2.2.2.2.length c12] := ka5.butM (But.sets (g := w.heap.size + 1) [.int .i64 x.1.1, .slice D1 x.1.2.1.length d1, .slice D2 x.1.2.2.length d2, .int .i64 x.2.1.1, .int .i64 x.2.1.2.1, .int .i64 x.2.1.2.2.1, .slice D6 x.2.1.2.2.2.length d6, .int .i64 x.2.2.1.1, .int .i64 x.2.2.1.2.1, .int .i64 x.2.2.1.2.2.1, .slice D10 x.2.2.1.2.2.2.length d10, .slice D11 x.2.2.2.1.length d11, .slice D12 x.2.2.2.2.length d12] w5 0) (by omega); with_reducible exact cells13 q))
    (first
      | (go_at_call 48
         with_reducible refine (C1.out _ (by repeat (first | with_reducible exact uu0 | with_reducible refine Up.alloc ?_ _ | with_reducible refine Up.drew ?_))).mono ?_
         rintro e w1 ⟨cs0, bl0, rfl, o0, nd0, u1⟩
         obtain ⟨D1, d1, _, D2, d2, _, rfl, _, _⟩ := openODisk o0
         have uu1 : Up w w1 := Up.trans (by repeat (first | with_reducible exact uu0 | with_reducible refine Up.alloc ?_ _ | with_reducible refine Up.drew ?_)) u1
         have ka1 : Bk w1 w.heap.size 40 #[.int .i64 x.1.1, .slice A1 x.1.2.1.length c1, .slice A2 x.1.2.2.length c2, .int .i64 x.2.1.1, .int .i64 x.2.1.2.1, .int .i64 x.2.1.2.2.1, .slice A6 x.2.1.2.2.2.length c6, .int .i64 x.2.2.1.1, .int .i64 x.2.2.1.2.1, .int .i64 x.2.2.1.2.2.1, .slice A10 x.2.2.1.2.2.2.length c10, .slice A11 x.2.2.2.1.length c11, .slice A12 x.2.2.2.2.length c12] := Bk.up (by repeat (first | with_reducible exact ka0 | with_reducible refine Bk.alloc ?_ _ | with_reducible refine Bk.drew ?_)) u1
         have kr1 : Bk w1 (w.heap.size + 1) 40 #[.int .i64 0, .slice none 0 0, .slice none 0 0, .int .i64 0, .int .i64 0, .int .i64 0, .slice none 0 0, .int .i64 0, .int .i64 0, .int .i64 0, .slice none 0 0, .slice none 0 0, .slice none 0 0] := Bk.up (by repeat (first | with_reducible exact kr0 | with_reducible refine Bk.alloc ?_ _ | with_reducible refine Bk.drew ?_)) u1)
      | (go_at_call 49
         with_reducible refine (C2.out _ (by repeat (first | with_reducible exact uu1 | with_reducible refine Up.alloc ?_ _ | with_reducible refine Up.drew ?_))).mono ?_
         rintro e w2 ⟨cs3, bl3, rfl, o3, nd3, u2⟩
         obtain ⟨D6, d6, _, rfl, _, _⟩ := openOTop o3
         have uu2 : Up w w2 := Up.trans (by repeat (first | with_reducible exact uu1 | with_reducible refine Up.alloc ?_ _ | with_reducible refine Up.drew ?_)) u2
         have ka2 : Bk w2 w.heap.size 40 #[.int .i64 x.1.1, .slice A1 x.1.2.1.length c1, .slice A2 x.1.2.2.length c2, .int .i64 x.2.1.1, .int .i64 x.2.1.2.1, .int .i64 x.2.1.2.2.1, .slice A6 x.2.1.2.2.2.length c6, .int .i64 x.2.2.1.1, .int .i64 x.2.2.1.2.1, .int .i64 x.2.2.1.2.2.1, .slice A10 x.2.2.1.2.2.2.length c10, .slice A11 x.2.2.2.1.length c11, .slice A12 x.2.2.2.2.length c12] := Bk.up (by repeat (first | with_reducible exact ka1 | with_reducible refine Bk.alloc ?_ _ | with_reducible refine Bk.drew ?_)) u2
         have kr2 : Bk w2 (w.heap.size + 1) 40 #[.int .i64 0, .slice none 0 0, .slice none 0 0, .int .i64 0, .int .i64 0, .int .i64 0, .slice none 0 0, .int .i64 0, .int .i64 0, .int .i64 0, .slice none 0 0, .slice none 0 0, .slice none 0 0] := Bk.up (by repeat (first | with_reducible exact kr1 | with_reducible refine Bk.alloc ?_ _ | with_reducible refine Bk.drew ?_)) u2
         have t2 : Up w1 w2 := Up.trans (by repeat (first | with_reducible exact Up.refl w1 | with_reducible refine Up.alloc ?_ _ | with_reducible refine Up.drew ?_)) u2)
      | (go_at_call 49
         with_reducible refine (C3.out _ (by repeat (first | with_reducible exact uu2 | with_reducible refine Up.alloc ?_ _ | with_reducible refine Up.drew ?_))).mono ?_
         rintro e w3 ⟨cs7, bl7, rfl, o7, nd7, u3⟩
         obtain ⟨D10, d10, _, rfl, _, _⟩ := openOTop o7
         have uu3 : Up w w3 := Up.trans (by repeat (first | with_reducible exact uu2 | with_reducible refine Up.alloc ?_ _ | with_reducible refine Up.drew ?_)) u3
         have ka3 : Bk w3 w.heap.size 40 #[.int .i64 x.1.1, .slice A1 x.1.2.1.length c1, .slice A2 x.1.2.2.length c2, .int .i64 x.2.1.1, .int .i64 x.2.1.2.1, .int .i64 x.2.1.2.2.1, .slice A6 x.2.1.2.2.2.length c6, .int .i64 x.2.2.1.1, .int .i64 x.2.2.1.2.1, .int .i64 x.2.2.1.2.2.1, .slice A10 x.2.2.1.2.2.2.length c10, .slice A11 x.2.2.2.1.length c11, .slice A12 x.2.2.2.2.length c12] := Bk.up (by repeat (first | with_reducible exact ka2 | with_reducible refine Bk.alloc ?_ _ | with_reducible refine Bk.drew ?_)) u3
         have kr3 : Bk w3 (w.heap.size + 1) 40 #[.int .i64 0, .slice none 0 0, .slice none 0 0, .int .i64 0, .int .i64 0, .int .i64 0, .slice none 0 0, .int .i64 0, .int .i64 0, .int .i64 0, .slice none 0 0, .slice none 0 0, .slice none 0 0] := Bk.up (by repeat (first | with_reducible exact kr2 | with_reducible refine Bk.alloc ?_ _ | with_reducible refine Bk.drew ?_)) u3
         have t3 : Up w2 w3 := Up.trans (by repeat (first | with_reducible exact Up.refl w2 | with_reducible refine Up.alloc ?_ _ | with_reducible refine Up.drew ?_)) u3)
      | (refine step_app_new good_Seat flat_Seat rfl _ _ _ 77 rfl i2 _ Tryz.underlying36 hi2 hz0 hz1 (by rfl) (by rfl) (by rfl) (b11.up good_Seat (by repeat (first | with_reducible exact uu3 | with_reducible refine Up.alloc ?_ _ | with_reducible refine Up.drew ?_))) (by rw [hz2]; omega) ?_
         intro D11 d11 bl11 w4 o11 nd11 u4
         have uu4 : Up w w4 := Up.trans (by repeat (first | with_reducible exact uu3 | with_reducible refine Up.alloc ?_ _ | with_reducible refine Up.drew ?_)) u4
         have ka4 : Bk w4 w.heap.size 40 #[.int .i64 x.1.1, .slice A1 x.1.2.1.length c1, .slice A2 x.1.2.2.length c2, .int .i64 x.2.1.1, .int .i64 x.2.1.2.1, .int .i64 x.2.1.2.2.1, .slice A6 x.2.1.2.2.2.length c6, .int .i64 x.2.2.1.1, .int .i64 x.2.2.1.2.1, .int .i64 x.2.2.1.2.2.1, .slice A10 x.2.2.1.2.2.2.length c10, .slice A11 x.2.2.2.1.length c11, .slice A12 x.2.2.2.2.length c12] := Bk.up (by repeat (first | with_reducible exact ka3 | with_reducible refine Bk.alloc ?_ _ | with_reducible refine Bk.drew ?_)) u4
         have kr4 : Bk w4 (w.heap.size + 1) 40 #[.int .i64 0, .slice none 0 0, .slice none 0 0, .int .i64 0, .int .i64 0, .int .i64 0, .slice none 0 0, .int .i64 0, .int .i64 0, .int .i64 0, .slice none 0 0, .slice none 0 0, .slice none 0 0] := Bk.up (by repeat (first | with_reducible exact kr3 | with_reducible refine Bk.alloc ?_ _ | with_reducible refine Bk.drew ?_)) u4
         have t4 : Up w3 w4 := Up.trans (by repeat (first | with_reducible exact Up.refl w3 | with_reducible refine Up.alloc ?_ _ | with_reducible refine Up.drew ?_)) u4)
      | (go_at_call 50
         with_reducible refine (C5.out _ (by repeat (first | with_reducible exact uu4 | with_reducible refine Up.alloc ?_ _ | with_reducible refine Up.drew ?_))).mono ?_
         rintro e w5 ⟨D12, d12, bl12, rfl, o12, nd12, u5⟩
         have uu5 : Up w w5 := Up.trans (by repeat (first | with_reducible exact uu4 | with_reducible refine Up.alloc ?_ _ | with_reducible refine Up.drew ?_)) u5
         have ka5 : Bk w5 w.heap.size 40 #[.int .i64 x.1.1, .slice A1 x.1.2.1.length c1, .slice A2 x.1.2.2.length c2, .int .i64 x.2.1.1, .int .i64 x.2.1.2.1, .int .i64 x.2.1.2.2.1, .slice A6 x.2.1.2.2.2.length c6, .int .i64 x.2.2.1.1, .int .i64 x.2.2.1.2.1, .int .i64 x.2.2.1.2.2.1, .slice A10 x.2.2.1.2.2.2.length c10, .slice A11 x.2.2.2.1.length c11, .slice A12 x.2.2.2.2.length c12] := Bk.up (by repeat (first | with_reducible exact ka4 | with_reducible refine Bk.alloc ?_ _ | with_reducible refine Bk.drew ?_)) u5
         have kr5 : Bk w5 (w.heap.size + 1) 40 #[.int .i64 0, .slice none 0 0, .slice none 0 0, .int .i64 0, .int .i64 0, .int .i64 0, .slice none 0 0, .int .i64 0, .int .i64 0, .int .i64 0, .slice none 0 0, .slice none 0 0, .slice none 0 0] := Bk.up (by repeat (first | with_reducible exact kr4 | with_reducible refine Bk.alloc ?_ _ | with_reducible refine Bk.drew ?_)) u5
         have t5 : Up w4 w5 := Up.trans (by repeat (first | with_reducible exact Up.refl w4 | with_reducible refine Up.alloc ?_ _ | with_reducible refine Up.drew ?_)) u5
         have gr0 : w5.cell? ⟨w.heap.size + 1, 0, none⟩ = some (.int .i64 0) := kr5.cell 0; have fr0 := kr5.frozen 0; have gr1 : w5.cell? ⟨w.heap.size + 1, 1, none⟩ = some (.slice none 0 0) := kr5.cell 1; have fr1 := kr5.frozen 1; have gr2 : w5.cell? ⟨w.heap.size + 1, 2, none⟩ = some (.slice none 0 0) := kr5.cell 2; have fr2 := kr5.frozen 2; have gr3 : w5.cell? ⟨w.heap.size + 1, 3, none⟩ = some (.int .i64 0) := kr5.cell 3; have fr3 := kr5.frozen 3; have gr4 : w5.cell? ⟨w.heap.size + 1, 4, none⟩ = some (.int .i64 0) := kr5.cell 4; have fr4 := kr5.frozen 4; have gr5 : w5.cell? ⟨w.heap.size + 1, 5, none⟩ = some (.int .i64 0) := kr5.cell 5; have fr5 := kr5.frozen 5; have gr6 : w5.cell? ⟨w.heap.size + 1, 6, none⟩ = some (.slice none 0 0) := kr5.cell 6; have fr6 := kr5.frozen 6; have gr7 : w5.cell? ⟨w.heap.size + 1, 7, none⟩ = some (.int .i64 0) := kr5.cell 7; have fr7 := kr5.frozen 7; have gr8 : w5.cell? ⟨w.heap.size + 1, 8, none⟩ = some (.int .i64 0) := kr5.cell 8; have fr8 := kr5.frozen 8; have gr9 : w5.cell? ⟨w.heap.size + 1, 9, none⟩ = some (.int .i64 0) := kr5.cell 9; have fr9 := kr5.frozen 9; have gr10 : w5.cell? ⟨w.heap.size + 1, 10, none⟩ = some (.slice none 0 0) := kr5.cell 10; have fr10 := kr5.frozen 10; have gr11 : w5.cell? ⟨w.heap.size + 1, 11, none⟩ = some (.slice none 0 0) := kr5.cell 11; have fr11 := kr5.frozen 11; have gr12 : w5.cell? ⟨w.heap.size + 1, 12, none⟩ = some (.slice none 0 0) := kr5.cell 12; have fr12 := kr5.frozen 12))
  all_goals
    go_wp2_with fail
    have bt : But (w.heap.size + 1) w5 (((((((((((((w5.setCell ⟨w.heap.size + 1, 0, none⟩ (.int .i64 x.1.1)).setCell ⟨w.heap.size + 1, 1, none⟩ (.slice D1 x.1.2.1.length d1)).setCell ⟨w.heap.size + 1, 2, none⟩ (.slice D2 x.1.2.2.length d2)).setCell ⟨w.heap.size + 1, 3, none⟩ (.int .i64 x.2.1.1)).setCell ⟨w.heap.size + 1, 4, none⟩ (.int .i64 x.2.1.2.1)).setCell ⟨w.heap.size + 1, 5, none⟩ (.int .i64 x.2.1.2.2.1)).setCell ⟨w.heap.size + 1, 6, none⟩ (.slice D6 x.2.1.2.2.2.length d6)).setCell ⟨w.heap.size + 1, 7, none⟩ (.int .i64 x.2.2.1.1)).setCell ⟨w.heap.size + 1, 8, none⟩ (.int .i64 x.2.2.1.2.1)).setCell ⟨w.heap.size + 1, 9, none⟩ (.int .i64 x.2.2.1.2.2.1)).setCell ⟨w.heap.size + 1, 10, none⟩ (.slice D10 x.2.2.1.2.2.2.length d10)).setCell ⟨w.heap.size + 1, 11, none⟩ (.slice D11 x.2.2.2.1.length d11)).setCell ⟨w.heap.size + 1, 12, none⟩ (.slice D12 x.2.2.2.2.length d12)) := But.sets (g := w.heap.size + 1) [.int .i64 x.1.1, .slice D1 x.1.2.1.length d1, .slice D2 x.1.2.2.length d2, .int .i64 x.2.1.1, .int .i64 x.2.1.2.1, .int .i64 x.2.1.2.2.1, .slice D6 x.2.1.2.2.2.length d6, .int .i64 x.2.2.1.1, .int .i64 x.2.2.1.2.1, .int .i64 x.2.2.1.2.2.1, .slice D10 x.2.2.1.2.2.2.length d10, .slice D11 x.2.2.2.1.length d11, .slice D12 x.2.2.2.2.length d12] w5 0
    have krE : Bk (((((((((((((w5.setCell ⟨w.heap.size + 1, 0, none⟩ (.int .i64 x.1.1)).setCell ⟨w.heap.size + 1, 1, none⟩ (.slice D1 x.1.2.1.length d1)).setCell ⟨w.heap.size + 1, 2, none⟩ (.slice D2 x.1.2.2.length d2)).setCell ⟨w.heap.size + 1, 3, none⟩ (.int .i64 x.2.1.1)).setCell ⟨w.heap.size + 1, 4, none⟩ (.int .i64 x.2.1.2.1)).setCell ⟨w.heap.size + 1, 5, none⟩ (.int .i64 x.2.1.2.2.1)).setCell ⟨w.heap.size + 1, 6, none⟩ (.slice D6 x.2.1.2.2.2.length d6)).setCell ⟨w.heap.size + 1, 7, none⟩ (.int .i64 x.2.2.1.1)).setCell ⟨w.heap.size + 1, 8, none⟩ (.int .i64 x.2.2.1.2.1)).setCell ⟨w.heap.size + 1, 9, none⟩ (.int .i64 x.2.2.1.2.2.1)).setCell ⟨w.heap.size + 1, 10, none⟩ (.slice D10 x.2.2.1.2.2.2.length d10)).setCell ⟨w.heap.size + 1, 11, none⟩ (.slice D11 x.2.2.2.1.length d11)).setCell ⟨w.heap.size + 1, 12, none⟩ (.slice D12 x.2.2.2.2.length d12)) (w.heap.size + 1) 40 #[.int .i64 x.1.1, .slice D1 x.1.2.1.length d1, .slice D2 x.1.2.2.length d2, .int .i64 x.2.1.1, .int .i64 x.2.1.2.1, .int .i64 x.2.1.2.2.1, .slice D6 x.2.1.2.2.2.length d6, .int .i64 x.2.2.1.1, .int .i64 x.2.2.1.2.1, .int .i64 x.2.2.1.2.2.1, .slice D10 x.2.2.1.2.2.2.length d10, .slice D11 x.2.2.2.1.length d11, .slice D12 x.2.2.2.2.length d12] := kr5.setsL [.int .i64 x.1.1, .slice D1 x.1.2.1.length d1, .slice D2 x.1.2.2.length d2, .int .i64 x.2.1.1, .int .i64 x.2.1.2.1, .int .i64 x.2.1.2.2.1, .slice D6 x.2.1.2.2.2.length d6, .int .i64 x.2.2.1.1, .int .i64 x.2.2.1.2.1, .int .i64 x.2.2.1.2.2.1, .slice D10 x.2.2.1.2.2.2.length d10, .slice D11 x.2.2.2.1.length d11, .slice D12 x.2.2.2.2.length d12] 0
    refine bodyPost_ret (results_bk krE _ _ Tryz.results20 rfl Tryz.underlying40 rfl (by kernel_rfl)) rfl ?_
    generalize (((((((((((((w5.setCell ⟨w.heap.size + 1, 0, none⟩ (.int .i64 x.1.1)).setCell ⟨w.heap.size + 1, 1, none⟩ (.slice D1 x.1.2.1.length d1)).setCell ⟨w.heap.size + 1, 2, none⟩ (.slice D2 x.1.2.2.length d2)).setCell ⟨w.heap.size + 1, 3, none⟩ (.int .i64 x.2.1.1)).setCell ⟨w.heap.size + 1, 4, none⟩ (.int .i64 x.2.1.2.1)).setCell ⟨w.heap.size + 1, 5, none⟩ (.int .i64 x.2.1.2.2.1)).setCell ⟨w.heap.size + 1, 6, none⟩ (.slice D6 x.2.1.2.2.2.length d6)).setCell ⟨w.heap.size + 1, 7, none⟩ (.int .i64 x.2.2.1.1)).setCell ⟨w.heap.size + 1, 8, none⟩ (.int .i64 x.2.2.1.2.1)).setCell ⟨w.heap.size + 1, 9, none⟩ (.int .i64 x.2.2.1.2.2.1)).setCell ⟨w.heap.size + 1, 10, none⟩ (.slice D10 x.2.2.1.2.2.2.length d10)).setCell ⟨w.heap.size + 1, 11, none⟩ (.slice D11 x.2.2.2.1.length d11)).setCell ⟨w.heap.size + 1, 12, none⟩ (.slice D12 x.2.2.2.2.length d12)) = W6 at bt krE ⊢
    have y1 := uu1.size
    have y2 := t2.size
    have y3 := t3.size
    have y4 := t4.size
    have y5 := t5.size
    have zk := kr1.lt
    have j0 : ∀ b ∈ bl0, w.heap.size + 1 + 1 ≤ b ∧ b < w1.heap.size := fun b hb => by have := good_Disk.own_in o0 b hb; first | omega | (simp at this; omega)
    have j3 : ∀ b ∈ bl3, w1.heap.size ≤ b ∧ b < w2.heap.size := fun b hb => by have := good_Top.own_in o3 b hb; first | omega | (simp at this; omega)
    have j7 : ∀ b ∈ bl7, w2.heap.size ≤ b ∧ b < w3.heap.size := fun b hb => by have := good_Top.own_in o7 b hb; first | omega | (simp at this; omega)
    have j11 : ∀ b ∈ bl11, w3.heap.size ≤ b ∧ b < w4.heap.size := fun b hb => by have := o11.in_ good_Seat b hb; first | omega | (simp at this; omega)
    have j12 : ∀ b ∈ bl12, w4.heap.size ≤ b ∧ b < w5.heap.size := fun b hb => by have := o12.in_ good_I b hb; first | omega | (simp at this; omega)
    have m0 : bl0.Nodup ∧ ∀ b ∈ bl0, b < w1.heap.size := ⟨nd0, fun b hb => (j0 b hb).2⟩
    have m3 := nd_snoc m0 nd3 j3 y2
    have m7 := nd_snoc m3 nd7 j7 y3
    have m11 := nd_snoc m7 nd11 j11 y4
    have m12 := nd_snoc m11 nd12 j12 y5
    have p0 := good_Disk.own_wide (own_but good_Disk (lo := w.heap.size + 1 + 1) (own_up good_Disk (own_up good_Disk (own_up good_Disk (own_up good_Disk (good_Disk.own_wide o0 (by simp) (Nat.le_refl _)) t2) t3) t4) t5) bt (by omega)) (lo' := w.heap.size) (by omega) (Nat.le_refl _)
    have p3 := good_Top.own_wide (own_but good_Top (lo := w1.heap.size) (own_up good_Top (own_up good_Top (own_up good_Top (good_Top.own_wide o3 (by simp) (Nat.le_refl _)) t3) t4) t5) bt (by omega)) (lo' := w.heap.size) (by omega) (Nat.le_refl _)
    have p7 := good_Top.own_wide (own_but good_Top (lo := w2.heap.size) (own_up good_Top (own_up good_Top (good_Top.own_wide o7 (by simp) (Nat.le_refl _)) t4) t5) bt (by omega)) (lo' := w.heap.size) (by omega) (Nat.le_refl _)
    have p11 := (((o11.wide good_Seat (lo' := w3.heap.size) (by simp) (Nat.le_refl _)).up good_Seat t5).but good_Seat bt (by omega)).wide good_Seat (lo' := w.heap.size) (by omega) (Nat.le_refl _)
    have p12 := ((o12.wide good_I (lo' := w4.heap.size) (by simp) (Nat.le_refl _)).but good_I bt (by omega)).wide good_I (lo' := w.heap.size) (by omega) (Nat.le_refl _)
    exact ⟨[.int .i64 x.1.1, .slice D1 x.1.2.1.length d1, .slice D2 x.1.2.2.length d2, .int .i64 x.2.1.1, .int .i64 x.2.1.2.1, .int .i64 x.2.1.2.2.1, .slice D6 x.2.1.2.2.2.length d6, .int .i64 x.2.2.1.1, .int .i64 x.2.2.1.2.1, .int .i64 x.2.2.1.2.2.1, .slice D10 x.2.2.1.2.2.2.length d10, .slice D11 x.2.2.2.1.length d11, .slice D12 x.2.2.2.2.length d12], _, rfl, asmCache p0 p3 p7 p11 p12, m12.1, uu5.but bt (by omega)⟩
end Go.Proofs.YtfehlcbaalbajaaGreat
