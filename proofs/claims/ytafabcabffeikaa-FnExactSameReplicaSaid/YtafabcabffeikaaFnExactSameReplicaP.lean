/-
  The law FnExactSameReplica holds: for every input the call returns true and its arguments read as before. No condition beyond the row's own.
-/
import Derived.Test.YtafabcabffeikaaRows
import Derived.WalkKit
import Derived.ProofKit
import Derived.OpenShut
import Derived.ShutString
import Derived.ChangeOld
import Derived.Below
import Derived.Test.YtafabcabffeikaaFnExactSameReplicaW
import Derived.Test.YtafabcabffeikaaTy
namespace Go.Proofs.Ytafabcabffeikaa.fnExactSameReplicaDone
open Go.ChangeShapes Go.WideShapes Go.ChangeAt Go.RowKit Go.Proofs.Ytafabcabffeikaa
open Go.ChangeMaps (open_string shut_string)
set_option linter.unusedVariables false

theorem own : ownKnob Try.prog.godebug = none := by kernel_rfl
theorem laidOut : laidOutB Try.prog = true := by kernel_rfl
theorem wf64 {n : Int} (h : (Lit.int .i64 n).wf = true) : I64 n := bounds_i64 h
set_option maxRecDepth 100000 in
theorem fits_Node : Fits shNode Try.prog 216 := fits_struct Try.underlying216 (by kernel_rfl) (fitsF_cons (fits_S Try.underlying9 (by kernel_rfl)) rfl (fitsF_cons (fits_L good_S Try.underlying33 (by kernel_rfl) (fits_S Try.underlying9 (by kernel_rfl))) rfl (fitsF_one (fits_S Try.underlying9 (by kernel_rfl)) rfl)))
set_option maxRecDepth 100000 in
theorem fits_Tree : Fits shTree Try.prog 75 := fits_struct Try.underlying75 (by kernel_rfl) (fitsF_one (fits_L good_Node Try.underlying73 (by kernel_rfl) fits_Node) rfl)
set_option maxRecDepth 100000 in
theorem fits_Image : Fits shImage Try.prog 221 := fits_struct Try.underlying221 (by kernel_rfl) (fitsF_cons (fits_S Try.underlying9 (by kernel_rfl)) rfl (fitsF_cons (fits_L good_S Try.underlying33 (by kernel_rfl) (fits_S Try.underlying9 (by kernel_rfl))) rfl (fitsF_cons (fits_B Try.underlying4 (by kernel_rfl)) rfl (fitsF_cons (fits_S Try.underlying9 (by kernel_rfl)) rfl (fitsF_cons (fits_B Try.underlying4 (by kernel_rfl)) rfl (fitsF_one (fits_S Try.underlying9 (by kernel_rfl)) rfl))))))
set_option maxRecDepth 100000 in
theorem fits_Parcel : Fits shParcel Try.prog 185 := fits_struct Try.underlying185 (by kernel_rfl) (fitsF_cons (fits_I Try.underlying2 (by kernel_rfl)) rfl (fitsF_one (fits_L good_Image Try.underlying183 (by kernel_rfl) fits_Image) rfl))
set_option maxRecDepth 100000 in
theorem fits_Replica : Fits shReplica Try.prog 78 := fits_struct Try.underlying78 (by kernel_rfl) (fitsF_cons fits_Tree rfl (fitsF_cons (fits_I Try.underlying2 (by kernel_rfl)) rfl (fitsF_one (fits_L good_Parcel Try.underlying76 (by kernel_rfl) fits_Parcel) rfl)))
set_option maxRecDepth 100000 in
theorem lifted (os : Os) (started : os.Started) (H : Type) (enc : TypeId × Value → H) :
    ReturnsInHanded {} Try.checked os 12 .any (Rows.fnExactSameReplicaSpec.pre6 enc Try.prog Try.f12 Rows.fnExactSameReplicaRow.domain false) (Rows.fnExactSameReplicaSpec.post enc Try.prog Try.f12 false true false false) := by
  refine returnsInHanded_of_change (C := Try.checked) own started (by kernel_rfl) Try.func12
    (ChangeSpec.witness6 (enc := enc) (C := Try.checked) false ⟨#[], #[.agg #[.slice none 0 0, .int .i64 0, .slice none 0 0], .agg #[.slice none 0 0, .int .i64 0, .slice none 0 0]], []⟩ 8 (by kernel_rfl) (by kernel_rfl) (by kernel_rfl) (by kernel_rfl)) ?_
  intro W base args ds gs before hval0 hW hcnd _
  have hval : ∀ (j : Nat) t v, Try.f12.params[j]? = some t → args[j]? = some v → Value.okWide Try.prog W .any base t v := hval0
  have hW' := hW
  obtain ⟨p, q, hA0, hV, rfl, hfz, hnd⟩ := hW
  have hA : DataW.TrodAll enc Try.prog W 0 (fun _ => true) true Try.f12.params.toList args.toList ds p := hA0
  rw [Try.params12] at hA hval
  obtain ⟨v0, vs0, d0, ds0, p0, q0, hargs, rfl, rfl, h0, r0⟩ := trodAll_cons hA
  obtain ⟨v1, vs1, d1, ds1, p1, q1, rfl, rfl, rfl, h1, r1⟩ := trodAll_cons r0
  obtain ⟨rfl, rfl, rfl⟩ := trodAll_nil r1
  obtain rfl : args = #[v0, v1] := by cases args; simp_all
  obtain ⟨rfl, rfl⟩ := trodVars_none hV
  have k0 := h0
  have lt0 : ∀ x ∈ p0, x.block < W.heap.size := by obtain ⟨m, hm⟩ := k0; exact DataW.trod_lt m _ _ _ hm
  obtain ⟨b0, rfl, _⟩ := okWide_struct Try.underlying78 (hval 0 78 v0 rfl rfl)
  obtain ⟨x0, w0⟩ : ∃ x, shReplica.rep W 0 W.heap.size b0.toList x := by obtain ⟨fuel, hf⟩ := h0; exact fits_Replica.two hf
  have k1 := h1
  have lt1 : ∀ x ∈ p1, x.block < W.heap.size := by obtain ⟨m, hm⟩ := k1; exact DataW.trod_lt m _ _ _ hm
  obtain ⟨b1, rfl, _⟩ := okWide_struct Try.underlying78 (hval 1 78 v1 rfl rfl)
  obtain ⟨x1, w1⟩ : ∃ x, shReplica.rep W 0 W.heap.size b1.toList x := by obtain ⟨fuel, hf⟩ := h1; exact fits_Replica.two hf
  clear hA0 hval0
  refine (w0_FnExactSameReplica W (.agg b0) x0 ⟨b0.toList, by simp, w0⟩ (.agg b1) x1 ⟨b1.toList, by simp, w1⟩).mono fun e W' ⟨he, bel⟩ => ?_
  subst he
  exact ⟨_, rfl, _, _, _, [], _, [], hW', trodAll_mk1 (shut_bool Try.underlying4 _), (trodAll_cons_mk (Below.trod laidOut (by kernel_rfl) (of_decide_eq_true (by kernel_rfl)) k0 bel lt0) (trodAll_cons_mk (Below.trod laidOut (by kernel_rfl) (of_decide_eq_true (by kernel_rfl)) k1 bel lt1) trodAll_mk0)), rfl, bel.frame _, fun h => by cases h⟩

theorem over : Rows.fnExactSameReplicaRow.holds Try.pinned (OpenSpec.ofChange Rows.fnExactSameReplicaSpec) :=
  OpenClaim.holds_of_wide 12 Try.f12 rfl rfl rfl rfl rfl rfl rfl ⟨rfl, rfl, rfl, rfl, rfl⟩ rfl rfl rfl rfl rfl (by kernel_rfl) Try.func12 (by kernel_rfl)
    (of_decide_eq_true (by kernel_rfl)) (by unfold Func.isWrapper; first | (rw [if_pos (by decide +kernel)]; kernel_rfl) | (rw [if_neg (by decide +kernel)]; exact ⟨rfl, rfl⟩))
    (fun os started H enc _ => lifted os started H enc)

theorem proved : Rows.FnExactSameReplicaSaid := over
#print axioms proved
end Go.Proofs.Ytafabcabffeikaa.fnExactSameReplicaDone
