/-
  The law FnExactUnlike holds: for every input the call returns true and its arguments read as before. No condition beyond the row's own.
-/
import Derived.Test.YtgdcdfpnogiciaaRows
import Derived.WalkKit
import Derived.ProofKit
import Derived.OpenShut
import Derived.ShutString
import Derived.ChangeOld
import Derived.Below
import Derived.Test.YtgdcdfpnogiciaaFnExactUnlikeW
import Derived.Test.YtgdcdfpnogiciaaTy
namespace Go.Proofs.Ytgdcdfpnogiciaa.fnExactUnlikeDone
open Go.ChangeShapes Go.WideShapes Go.ChangeAt Go.RowKit Go.Proofs.Ytgdcdfpnogiciaa
open Go.ChangeMaps (open_string shut_string)
set_option linter.unusedVariables false

theorem own : ownKnob Try.prog.godebug = none := by kernel_rfl
theorem laidOut : laidOutB Try.prog = true := by kernel_rfl
theorem wf64 {n : Int} (h : (Lit.int .i64 n).wf = true) : I64 n := bounds_i64 h
set_option maxRecDepth 100000 in
theorem fits_Page : Fits shPage Try.prog 78 := fits_struct Try.underlying78 (by kernel_rfl) (fitsF_cons (fits_B Try.underlying4 (by kernel_rfl)) rfl (fitsF_cons (fits_L good_S Try.underlying59 (by kernel_rfl) (fits_S Try.underlying9 (by kernel_rfl))) rfl (fitsF_cons (fits_L good_S Try.underlying59 (by kernel_rfl) (fits_S Try.underlying9 (by kernel_rfl))) rfl (fitsF_one (fits_L good_I Try.underlying33 (by kernel_rfl) (fits_I Try.underlying2 (by kernel_rfl))) rfl))))
set_option maxRecDepth 100000 in
theorem fits_Slot : Fits shSlot Try.prog 80 := fits_struct Try.underlying80 (by kernel_rfl) (fitsF_cons (fits_I Try.underlying2 (by kernel_rfl)) rfl (fitsF_one fits_Page rfl))
set_option maxRecDepth 100000 in
theorem fits_Btree : Fits shBtree Try.prog 31 := fits_struct Try.underlying31 (by kernel_rfl) (fitsF_cons (fits_I Try.underlying2 (by kernel_rfl)) rfl (fitsF_one (fits_L good_Slot Try.underlying29 (by kernel_rfl) fits_Slot) rfl))
set_option maxRecDepth 100000 in
theorem lifted (os : Os) (started : os.Started) (H : Type) (enc : TypeId × Value → H) :
    ReturnsInHanded {} Try.checked os 4 .any (Rows.fnExactUnlikeSpec.pre6 enc Try.prog Try.f4 Rows.fnExactUnlikeRow.domain false) (Rows.fnExactUnlikeSpec.post enc Try.prog Try.f4 false true false false) := by
  refine returnsInHanded_of_change (C := Try.checked) own started (by kernel_rfl) Try.func4
    (ChangeSpec.witness6 (enc := enc) (C := Try.checked) false ⟨#[], #[.agg #[.int .i64 0, .slice none 0 0], .agg #[.int .i64 0, .slice none 0 0]], []⟩ 8 (by kernel_rfl) (by kernel_rfl) (by kernel_rfl) (by kernel_rfl)) ?_
  intro W base args ds gs before hval0 hW hcnd _
  have hval : ∀ (j : Nat) t v, Try.f4.params[j]? = some t → args[j]? = some v → Value.okWide Try.prog W .any base t v := hval0
  have hW' := hW
  obtain ⟨p, q, hA0, hV, rfl, hfz, hnd⟩ := hW
  have hA : DataW.TrodAll enc Try.prog W 0 (fun _ => true) true Try.f4.params.toList args.toList ds p := hA0
  rw [Try.params4] at hA hval
  obtain ⟨v0, vs0, d0, ds0, p0, q0, hargs, rfl, rfl, h0, r0⟩ := trodAll_cons hA
  obtain ⟨v1, vs1, d1, ds1, p1, q1, rfl, rfl, rfl, h1, r1⟩ := trodAll_cons r0
  obtain ⟨rfl, rfl, rfl⟩ := trodAll_nil r1
  obtain rfl : args = #[v0, v1] := by cases args; simp_all
  obtain ⟨rfl, rfl⟩ := trodVars_none hV
  have k0 := h0
  have lt0 : ∀ x ∈ p0, x.block < W.heap.size := by obtain ⟨m, hm⟩ := k0; exact DataW.trod_lt m _ _ _ hm
  obtain ⟨b0, rfl, _⟩ := okWide_struct Try.underlying31 (hval 0 31 v0 rfl rfl)
  obtain ⟨x0, w0⟩ : ∃ x, shBtree.rep W 0 W.heap.size b0.toList x := by obtain ⟨fuel, hf⟩ := h0; exact fits_Btree.two hf
  have k1 := h1
  have lt1 : ∀ x ∈ p1, x.block < W.heap.size := by obtain ⟨m, hm⟩ := k1; exact DataW.trod_lt m _ _ _ hm
  obtain ⟨b1, rfl, _⟩ := okWide_struct Try.underlying31 (hval 1 31 v1 rfl rfl)
  obtain ⟨x1, w1⟩ : ∃ x, shBtree.rep W 0 W.heap.size b1.toList x := by obtain ⟨fuel, hf⟩ := h1; exact fits_Btree.two hf
  clear hA0 hval0
  refine (w0_FnExactUnlike W (.agg b0) x0 ⟨b0.toList, by simp, w0⟩ (.agg b1) x1 ⟨b1.toList, by simp, w1⟩).mono fun e W' ⟨he, bel⟩ => ?_
  subst he
  exact ⟨_, rfl, _, _, _, [], _, [], hW', trodAll_mk1 (shut_bool Try.underlying4 _), (trodAll_cons_mk (Below.trod laidOut (by kernel_rfl) (of_decide_eq_true (by kernel_rfl)) k0 bel lt0) (trodAll_cons_mk (Below.trod laidOut (by kernel_rfl) (of_decide_eq_true (by kernel_rfl)) k1 bel lt1) trodAll_mk0)), rfl, bel.frame _, fun h => by cases h⟩

theorem over : Rows.fnExactUnlikeRow.holds Try.pinned (OpenSpec.ofChange Rows.fnExactUnlikeSpec) :=
  OpenClaim.holds_of_wide 4 Try.f4 rfl rfl rfl rfl rfl rfl rfl ⟨rfl, rfl, rfl, rfl, rfl⟩ rfl rfl rfl rfl rfl (by kernel_rfl) Try.func4 (by kernel_rfl)
    (of_decide_eq_true (by kernel_rfl)) (by unfold Func.isWrapper; first | (rw [if_pos (by decide +kernel)]; kernel_rfl) | (rw [if_neg (by decide +kernel)]; exact ⟨rfl, rfl⟩))
    (fun os started H enc _ => lifted os started H enc)

theorem proved : Rows.FnExactUnlikeSaid := over
#print axioms proved
end Go.Proofs.Ytgdcdfpnogiciaa.fnExactUnlikeDone
