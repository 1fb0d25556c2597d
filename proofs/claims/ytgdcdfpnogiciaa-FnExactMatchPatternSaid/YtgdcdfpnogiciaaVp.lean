/-
  The law FnExactMatchPattern: its walk; and that what is read as a pattern is one of our patterns.
-/
import Derived.Test.YtgdcdfpnogiciaaVo
namespace Go.Proofs.Ytgdcdfpnogiciaa
open Go.RowKit Go.ChangeShapes Go.WideShapes Go.Deep
set_option linter.unusedVariables false
set_option linter.unusedSimpArgs false

set_option maxRecDepth 100000 in
set_option maxHeartbeats 4000000 in
theorem w0_FnExactMatchPattern (w : World) (s : ByteArray) (hs : s.size ≤ maxLen) (n : Nat) (A : Option Addr) (c : Nat) (xs : List (Pat n)) (h : SRW (shPat n) w A c xs) :
    Calls Try.prog 3 #[.string s, .slice A xs.length c] w fun e w' => e = .returned (.bool true) ∧ Up w w' := by
  have hs' := hs
  unfold maxLen at hs'
  have hg := good_Pat n
  by_cases h20 : s.size ≤ 1048576
  case neg =>
    have h20i : (1048576 : Int) < (s.size : Int) := by omega
    go_enter Try.func3, Try.ntmps3
    go_wp2_with fail
    go_ret
    exact ⟨rfl, Up.refl _⟩
  have h20i : ¬ (1048576 : Int) < (s.size : Int) := by omega
  have h20d : decide ((1048576 : Int) < (s.size : Int)) = false := decide_eq_false h20i
  go_enter Try.func3, Try.ntmps3
  go_wp2_with fail
  refine (c_szPats n xs A c _ _ h (by omega) (by omega)).mono ?_
  rintro e w1 ⟨rfl, u1⟩
  by_cases q0 : ¬ (((shL (shPat n)).sz xs : Nat) : Int) ≤ 1048576
  · rw [szR_no (by omega)]
    go_wp2_with fail
    go_ret
    exact ⟨rfl, u1⟩
  replace q0 := Decidable.of_not_not q0
  rw [szR_yes q0]
  have hn0 : (shL (shPat n)).sz xs ≤ 1048576 := by omega
  have HN := Lib.hid hn0; clear hn0
  go_wp2_with fail
  refine (c_toPats n xs A c _ (h.up hg u1) HN.out).mono ?_
  rintro e w2 ⟨D1, d1, bl1, rfl, o1, nd1, u2⟩
  have uu2 := u1.trans u2
  have y1 : SRW (shPat n) w2 D1 d1 xs := SR.of_own hg o1
  clear o1
  go_wp2_with fail
  refine (vs_MatchPattern n s xs D1 d1 _ hs y1).mono ?_
  rintro e w3 ⟨rfl, u3⟩
  have uu3 := uu2.trans u3
  obtain ⟨V, hV⟩ : ∃ V, (decide (s.size ≤ 64) && okPats n xs 3 && matchB n s xs) = V := ⟨_, rfl⟩
  rw [hV]
  have HV := Lib.hid hV; clear hV
  go_wp2_with fail
  refine (c_toPats n xs A c _ (h.up hg uu3) HN.out).mono ?_
  rintro e w4 ⟨D2, d2, bl2, rfl, o2, nd2, u4⟩
  have uu4 := uu3.trans u4
  have y2 : SRW (shPat n) w4 D2 d2 xs := SR.of_own hg o2
  clear o2
  go_wp2_with fail
  refine (vi_MatchPattern n s xs D2 d2 _ hs y2).mono ?_
  rintro e w5 ⟨rfl, u5⟩
  have uu5 := uu4.trans u5
  rw [HV.out]
  have hvv : (V != V) = false := by cases V <;> rfl
  go_wp2_with fail
  refine (c_toPats n xs A c _ (h.up hg uu5) HN.out).mono ?_
  rintro e w6 ⟨D3, d3, bl3, rfl, o3, nd3, u6⟩
  have uu6 := uu5.trans u6
  have y3 : SRW (shPat n) w6 D3 d3 xs := SR.of_own hg o3
  clear o3
  go_wp2_with fail
  refine (c_eqPats n xs xs D2 D3 d2 d3 _ (y2.up hg (u5.trans u6)) y3).mono ?_
  rintro e w7 ⟨b, rfl, hb, u7⟩
  have hbt : b = true := hb.2 rfl
  subst hbt
  clear hb
  go_wp2_with fail
  go_ret
  exact ⟨rfl, uu6.trans u7⟩

/-! ### What is read as patterns -/
section
variable {H : Type} {enc : TypeId × Value → H} {w : World} {base : Nat} {spare : Nat → Bool} {held : Bool}
theorem trod_list {α : Type} {s : Sh α} (hg : Good s) {P : Program} {t e : TypeId} (h : P.underlying t = some (.slice e)) (hone : P.cellsOf e = s.size) {fuel : Nat}
    (hel : ∀ n, n < fuel → ∀ (cs : List Value) (x : DataW H × List MemPlace), DataW.trod enc P w base spare held n e cs = some x → ∃ d : α, s.rep w 0 w.heap.size cs d)
    {cs : List Value} {x : DataW H × List MemPlace} (hx : DataW.trod enc P w base spare held fuel t cs = some x) : ∃ d : List α, (shL s).rep w 0 w.heap.size cs d := by
  rcases DataW.trod_slice h hx with ⟨rfl, _⟩ | ⟨a, len, cap, elems, rest, n, hfu, rfl, hxe, hbb, hl, hm, hlen, hi, hsp, hns⟩
  · exact ⟨[], none, 0, rfl, SR.nil _ _ _⟩
  · have hE : ∀ i, i < len → ∃ cs' d, cs'.length = s.size ∧ (∀ j, j < s.size → w.cell? ((a.add (i * s.size)).add j) = cs'[j]?) ∧ s.rep w 0 w.heap.size cs' d := by
      intro i hil
      have h0 := hi i hil
      rw [List.getElem?_eq_getElem (by omega)] at h0
      obtain ⟨cs', h1, h2⟩ := Option.bind_eq_some_iff.1 h0
      obtain ⟨d, hd⟩ := hel n (by omega) _ _ h2
      obtain ⟨_, hlen', hcell⟩ := World.cells?_some h1
      rw [hone] at hlen' hcell
      exact ⟨cs', d, hlen', hcell, hd⟩
    have hx : ∃ ds : List α, ds.length = len ∧ ∀ i (hi : i < ds.length), ∃ cs', cs'.length = s.size ∧ (∀ j, j < s.size → w.cell? ((a.add (i * s.size)).add j) = cs'[j]?) ∧ s.rep w 0 w.heap.size cs' ds[i] := by
      clear hi hl hm hlen hsp hns hxe hbb hx
      revert hE
      induction len with
      | zero => exact fun _ => ⟨[], rfl, fun i hi => absurd hi (by simp)⟩
      | succ k ih =>
        intro hE
        obtain ⟨ds, hd, hds⟩ := ih (fun i hi => hE i (by omega))
        obtain ⟨cs', d, h1, h2, h3⟩ := hE k (by omega)
        refine ⟨ds ++ [d], by simp [hd], fun i hi => ?_⟩
        by_cases hik : i < ds.length
        · obtain ⟨c1, e1, e2, e3⟩ := hds i hik
          exact ⟨c1, e1, e2, by rw [List.getElem_append_left hik]; exact e3⟩
        · have : i = k := by simp at hi; omega
          subst this
          exact ⟨cs', h1, h2, by rw [List.getElem_append_right (by omega)]; simpa using h3⟩
    obtain ⟨ds, hdl, hds⟩ := hx
    subst hdl
    refine ⟨ds, some a, cap, rfl, hl, hm, fun hp => ?_⟩
    obtain ⟨b, off, spot⟩ := a
    obtain ⟨cs0, hl0, hc0, _⟩ := hds 0 hp
    have h00 := hc0 0 hg.pos
    have hsome : ∃ v, cs0[0]? = some v := ⟨cs0[0]'(by rw [hl0]; exact hg.pos), List.getElem?_eq_getElem _⟩
    obtain ⟨v, hv⟩ := hsome
    rw [hv] at h00
    have hsp : spot = none := by simpa [Addr.add] using World.cell?_spot h00
    subst hsp
    have hlt : b < w.heap.size := by simpa [Addr.add] using cell_lt h00
    refine ⟨b, off, rfl, Nat.zero_le _, hlt, fun i hi => ?_⟩
    obtain ⟨cs', h1, h2, h3⟩ := hds i hi
    refine ⟨cs', ⟨h1, fun j hj => ?_⟩, h3⟩
    rw [← h2 j hj]
    congr 1
    unfold Addr.add
    by_cases e1 : i * s.size = 0 <;> by_cases e2 : j = 0 <;> simp [e1, e2, Nat.add_assoc]
theorem cells_Pat {n : Nat} : (shPat n).size = 5 := by cases n <;> rfl
set_option maxRecDepth 100000 in
theorem fitsI : Fits shI Try.prog 2 := fits_I Try.underlying2 (by kernel_rfl)
set_option maxRecDepth 100000 in
theorem fitsS : Fits shS Try.prog 9 := fits_S Try.underlying9 (by kernel_rfl)
theorem co_Pattern : Try.prog.cellsOf 47 = 5 := by kernel_rfl
theorem co_PatternS : Try.prog.cellsOf 22 = 1 := by kernel_rfl
theorem co_int64 : Try.prog.cellsOf 2 = 1 := by kernel_rfl
theorem co_string : Try.prog.cellsOf 9 = 1 := by kernel_rfl
theorem co_PatternSS : Try.prog.cellsOf 45 = 1 := by kernel_rfl
set_option maxRecDepth 100000 in
theorem trod_pat : ∀ (fuel m : Nat), fuel ≤ m → ∀ (cs : List Value) (x : DataW H × List MemPlace), DataW.trod enc Try.prog w base spare held fuel 47 cs = some x → ∃ d : Pat m, (shPat m).rep w 0 w.heap.size cs d := by
  intro fuel
  induction fuel using Nat.strongRecOn with
  | _ fuel ih =>
    intro m hm cs x hx
    obtain ⟨xs, n, hfu, _, hlen, hxl, hall⟩ := DataW.trod_struct Try.underlying47 hx
    rw [co_Pattern] at hlen
    have hsz : xs.length = 5 := hxl
    obtain ⟨m', rfl⟩ : ∃ m', m = m' + 1 := ⟨m - 1, by omega⟩
    have f0 : DataW.trod enc Try.prog w base spare held n 2 ((cs.drop 0).take (Try.prog.cellsOf 2)) = some (xs[0]'(by omega)) := by
      have := hall 0 _ rfl
      rw [List.getElem?_eq_getElem (by omega)] at this
      exact this
    have f1 : DataW.trod enc Try.prog w base spare held n 2 ((cs.drop 1).take (Try.prog.cellsOf 2)) = some (xs[1]'(by omega)) := by
      have := hall 1 _ rfl
      rw [List.getElem?_eq_getElem (by omega)] at this
      exact this
    have f2 : DataW.trod enc Try.prog w base spare held n 9 ((cs.drop 2).take (Try.prog.cellsOf 9)) = some (xs[2]'(by omega)) := by
      have := hall 2 _ rfl
      rw [List.getElem?_eq_getElem (by omega)] at this
      exact this
    have f3 : DataW.trod enc Try.prog w base spare held n 9 ((cs.drop 3).take (Try.prog.cellsOf 9)) = some (xs[3]'(by omega)) := by
      have := hall 3 _ rfl
      rw [List.getElem?_eq_getElem (by omega)] at this
      exact this
    have f4 : DataW.trod enc Try.prog w base spare held n 45 ((cs.drop 4).take (Try.prog.cellsOf 45)) = some (xs[4]'(by omega)) := by
      have := hall 4 _ rfl
      rw [List.getElem?_eq_getElem (by omega)] at this
      exact this
    rw [co_int64] at f0 f1
    rw [co_string] at f2 f3
    rw [co_PatternSS] at f4
    obtain ⟨d0, h0⟩ := fitsI.two f0
    obtain ⟨d1, h1⟩ := fitsI.two f1
    obtain ⟨d2, h2⟩ := fitsS.two f2
    obtain ⟨d3, h3⟩ := fitsS.two f3
    obtain ⟨d4, h4⟩ := trod_list (s := shL (shPat m')) (good_L (good_Pat m')) Try.underlying45 co_PatternS (fun n1 hn1 cs1 x1 hx1 =>
      trod_list (s := shPat m') (good_Pat m') Try.underlying22 (co_Pattern.trans cells_Pat.symm) (fun n2 hn2 cs2 x2 hx2 => ih n2 (by omega) m' (by omega) cs2 x2 hx2) hx1) f4
    obtain ⟨a0, a1, a2, a3, a4, rfl⟩ : ∃ a0 a1 a2 a3 a4, cs = [a0, a1, a2, a3, a4] := by
      match cs, hlen with
      | [a0, a1, a2, a3, a4], _ => exact ⟨a0, a1, a2, a3, a4, rfl⟩
    refine ⟨(d0, d1, d2, d3, d4), ?_⟩
    exact ⟨h0, h1, h2, h3, h4⟩
set_option maxRecDepth 100000 in
theorem trod_pats {cs : List Value} {x : DataW H × List MemPlace} {fuel : Nat} (hx : DataW.trod enc Try.prog w base spare held fuel 22 cs = some x) : ∃ (n : Nat) (d : List (Pat n)), (shL (shPat n)).rep w 0 w.heap.size cs d := by
  obtain ⟨d, hd⟩ := trod_list (s := shPat fuel) (good_Pat fuel) Try.underlying22 (co_Pattern.trans cells_Pat.symm) (fun n hn cs x hx => trod_pat n fuel (by omega) cs x hx) hx
  exact ⟨fuel, d, hd⟩
end
end Go.Proofs.Ytgdcdfpnogiciaa
