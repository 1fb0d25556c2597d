/-
  The law FnExactNoteDirty holds: for every input the call returns true and its arguments read as before. No condition beyond the row's own.
-/
import Derived.Test.YtfehlcbaalbajaaGreatRows
import Derived.WalkKit
import Derived.ProofKit
import Derived.OpenShut
import Derived.ShutString
import Derived.ChangeOld
import Derived.Below
import Derived.Test.YtfehlcbaalbajaaGreatFnExactNoteDirtyW
import Derived.Test.YtfehlcbaalbajaaGreatTy
namespace Go.Proofs.YtfehlcbaalbajaaGreat.fnExactNoteDirtyDone
open Go.ChangeShapes Go.WideShapes Go.ChangeAt Go.RowKit Go.Proofs.YtfehlcbaalbajaaGreat
open Go.ChangeMaps (open_string shut_string)
set_option linter.unusedVariables false

theorem own : ownKnob Tryz.prog.godebug = none := by kernel_rfl
theorem laidOut : laidOutB Tryz.prog = true := by kernel_rfl
theorem wf64 {n : Int} (h : (Lit.int .i64 n).wf = true) : I64 n := bounds_i64 h
set_option maxRecDepth 100000 in
theorem fits_Put : Fits shPut Tryz.prog 98 := fits_struct Tryz.underlying98 (by kernel_rfl) (fitsF_cons (fits_I Tryz.underlying2 (by kernel_rfl)) rfl (fitsF_one (fits_S Tryz.underlying9 (by kernel_rfl)) rfl))
set_option maxRecDepth 100000 in
theorem fits_Disk : Fits shDisk Tryz.prog 25 := fits_struct Tryz.underlying25 (by kernel_rfl) (fitsF_cons (fits_I Tryz.underlying2 (by kernel_rfl)) rfl (fitsF_cons (fits_L good_S Tryz.underlying22 (by kernel_rfl) (fits_S Tryz.underlying9 (by kernel_rfl))) rfl (fitsF_one (fits_L good_Put Tryz.underlying23 (by kernel_rfl) fits_Put) rfl)))
set_option maxRecDepth 100000 in
theorem fits_Seat : Fits shSeat Tryz.prog 84 := fits_struct Tryz.underlying84 (by kernel_rfl) (fitsF_cons (fits_I Tryz.underlying2 (by kernel_rfl)) rfl (fitsF_one (fits_I Tryz.underlying2 (by kernel_rfl)) rfl))
set_option maxRecDepth 100000 in
theorem fits_Top : Fits shTop Tryz.prog 28 := fits_struct Tryz.underlying28 (by kernel_rfl) (fitsF_cons (fits_I Tryz.underlying2 (by kernel_rfl)) rfl (fitsF_cons (fits_I Tryz.underlying2 (by kernel_rfl)) rfl (fitsF_cons (fits_I Tryz.underlying2 (by kernel_rfl)) rfl (fitsF_one (fits_L good_Seat Tryz.underlying26 (by kernel_rfl) fits_Seat) rfl))))
set_option maxRecDepth 100000 in
theorem fits_Cache : Fits shCache Tryz.prog 31 := fits_struct Tryz.underlying31 (by kernel_rfl) (fitsF_cons fits_Disk rfl (fitsF_cons fits_Top rfl (fitsF_cons fits_Top rfl (fitsF_cons (fits_L good_Seat Tryz.underlying26 (by kernel_rfl) fits_Seat) rfl (fitsF_one (fits_L good_I Tryz.underlying29 (by kernel_rfl) (fits_I Tryz.underlying2 (by kernel_rfl))) rfl)))))
set_option maxRecDepth 100000 in
theorem lifted (os : Os) (started : os.Started) (H : Type) (enc : TypeId × Value → H) :
    ReturnsInHanded {} Tryz.checked os 3 .any (Rows.fnExactNoteDirtySpec.pre6 enc Tryz.prog Tryz.f3 Rows.fnExactNoteDirtyRow.domain false) (Rows.fnExactNoteDirtySpec.post enc Tryz.prog Tryz.f3 false true false false) := by
  refine returnsInHanded_of_change (C := Tryz.checked) own started (by kernel_rfl) Tryz.func3
    (ChangeSpec.witness6 (enc := enc) (C := Tryz.checked) false ⟨#[], #[.agg #[.int .i64 0, .slice none 0 0, .slice none 0 0, .int .i64 0, .int .i64 0, .int .i64 0, .slice none 0 0, .int .i64 0, .int .i64 0, .int .i64 0, .slice none 0 0, .slice none 0 0, .slice none 0 0], .slice none 0 0], []⟩ 8 (by kernel_rfl) (by kernel_rfl) (by kernel_rfl) (by kernel_rfl)) ?_
  intro W base args ds gs before hval0 hW hcnd _
  have hval : ∀ (j : Nat) t v, Tryz.f3.params[j]? = some t → args[j]? = some v → Value.okWide Tryz.prog W .any base t v := hval0
  have hW' := hW
  obtain ⟨p, q, hA0, hV, rfl, hfz, hnd⟩ := hW
  have hA : DataW.TrodAll enc Tryz.prog W 0 (fun _ => true) true Tryz.f3.params.toList args.toList ds p := hA0
  rw [Tryz.params3] at hA hval
  obtain ⟨v0, vs0, d0, ds0, p0, q0, hargs, rfl, rfl, h0, r0⟩ := trodAll_cons hA
  obtain ⟨v1, vs1, d1, ds1, p1, q1, rfl, rfl, rfl, h1, r1⟩ := trodAll_cons r0
  obtain ⟨rfl, rfl, rfl⟩ := trodAll_nil r1
  obtain rfl : args = #[v0, v1] := by cases args; simp_all
  obtain ⟨rfl, rfl⟩ := trodVars_none hV
  have k0 := h0
  have lt0 : ∀ x ∈ p0, x.block < W.heap.size := by obtain ⟨m, hm⟩ := k0; exact DataW.trod_lt m _ _ _ hm
  obtain ⟨b0, rfl, _⟩ := okWide_struct Tryz.underlying31 (hval 0 31 v0 rfl rfl)
  obtain ⟨x0, w0⟩ : ∃ x, shCache.rep W 0 W.heap.size b0.toList x := by obtain ⟨fuel, hf⟩ := h0; exact fits_Cache.two hf
  have k1 := h1
  have lt1 : ∀ x ∈ p1, x.block < W.heap.size := by obtain ⟨m, hm⟩ := k1; exact DataW.trod_lt m _ _ _ hm
  obtain ⟨a1, len1, cap1, rfl⟩ := okWide_slice Tryz.underlying29 (hval 1 29 v1 rfl rfl)
  obtain ⟨x1, A1, c1, e1, w1⟩ : ∃ x, (shL shI).rep W 0 W.heap.size [.slice a1 len1 cap1] x := by obtain ⟨fuel, hf⟩ := h1; exact (fits_L good_I Tryz.underlying29 (by kernel_rfl) (fits_I Tryz.underlying2 (by kernel_rfl))).two hf
  simp only [List.cons.injEq, Value.slice.injEq, and_true] at e1
  obtain ⟨rfl, rfl, rfl⟩ := e1
  clear hA0 hval0
  refine (w0_FnExactNoteDirty W (.agg b0) x0 ⟨b0.toList, by simp, w0⟩ a1 cap1 x1 w1).mono fun e W' ⟨he, bel⟩ => ?_
  subst he
  exact ⟨_, rfl, _, _, _, [], _, [], hW', trodAll_mk1 (shut_bool Tryz.underlying4 _), (trodAll_cons_mk (Below.trod laidOut (by kernel_rfl) (of_decide_eq_true (by kernel_rfl)) k0 bel lt0) (trodAll_cons_mk (Below.trod laidOut (by kernel_rfl) (of_decide_eq_true (by kernel_rfl)) k1 bel lt1) trodAll_mk0)), rfl, bel.frame _, fun h => by cases h⟩

theorem over : Rows.fnExactNoteDirtyRow.holds Tryz.pinned (OpenSpec.ofChange Rows.fnExactNoteDirtySpec) :=
  OpenClaim.holds_of_wide 3 Tryz.f3 rfl rfl rfl rfl rfl rfl rfl ⟨rfl, rfl, rfl, rfl, rfl⟩ rfl rfl rfl rfl rfl (by kernel_rfl) Tryz.func3 (by kernel_rfl)
    (of_decide_eq_true (by kernel_rfl)) (by unfold Func.isWrapper; first | (rw [if_pos (by decide +kernel)]; kernel_rfl) | (rw [if_neg (by decide +kernel)]; exact ⟨rfl, rfl⟩))
    (fun os started H enc _ => lifted os started H enc)

theorem proved : Rows.FnExactNoteDirtySaid := over
#print axioms proved
end Go.Proofs.YtfehlcbaalbajaaGreat.fnExactNoteDirtyDone
