/-
  The law FnExactReplicaOk holds: for every input the call returns true and its arguments read as before, the listed variables of the library holding what the program's text lays.
-/
import Derived.Test.YtanjmolgpkffoaaGreatDoorRows
import Derived.Test.YtanjmolgpkffoaaGreatDoorCards
import Derived.Test.YtanjmolgpkffoaaGreatDoorTie
import Derived.Test.YtanjmolgpkffoaaGreatDoorFnExactReplicaOkC
import Derived.Test.YtanjmolgpkffoaaGreatDoorM1FnExactReplicaOkW
import Derived.Test.YtanjmolgpkffoaaGreatDoorM1E
import Derived.WalkKit
import Derived.ProofKit
import Derived.OpenShut
import Derived.ShutString
import Derived.ChangeOld
import Derived.Below
import Derived.ChangeSame
import Derived.ChangeVars
import Derived.JoinedOf
import Derived.RowKit
import Derived.LaidLaws
import Derived.LaidHandle
import Derived.SevenTiedAt
import Derived.Stop.LaidErr
import Derived.Lib.LaidTab
import Derived.Deep.DeepLaidRun
namespace Go.Proofs.YtanjmolgpkffoaaGreatDoor.fnExactReplicaOkDone
open Go.ChangeShapes Go.WideShapes Go.ChangeAt Go.RowKit Go.Proofs.YtanjmolgpkffoaaGreatDoor
open Go.ChangeMaps (open_string shut_string)
set_option linter.unusedVariables false

theorem own : ownKnob Tryz.prog.godebug = none := by kernel_rfl
theorem laidOut : laidOutB Tryz.prog = true := by kernel_rfl
theorem wf64 {n : Int} (h : (Lit.int .i64 n).wf = true) : I64 n := bounds_i64 h
set_option maxRecDepth 100000 in
theorem fits_Node : Fits shNode Tryz.prog 135 := fits_struct Tryz.underlying135 (by kernel_rfl) (fitsF_cons (fits_S Tryz.underlying9 (by kernel_rfl)) rfl (fitsF_cons (fits_L good_S Tryz.underlying25 (by kernel_rfl) (fits_S Tryz.underlying9 (by kernel_rfl))) rfl (fitsF_one (fits_S Tryz.underlying9 (by kernel_rfl)) rfl)))
set_option maxRecDepth 100000 in
theorem fits_Tree : Fits shTree Tryz.prog 24 := fits_struct Tryz.underlying24 (by kernel_rfl) (fitsF_one (fits_L good_Node Tryz.underlying22 (by kernel_rfl) fits_Node) rfl)
set_option maxRecDepth 100000 in
theorem fits_Image : Fits shImage Tryz.prog 97 := fits_struct Tryz.underlying97 (by kernel_rfl) (fitsF_cons (fits_S Tryz.underlying9 (by kernel_rfl)) rfl (fitsF_cons (fits_L good_S Tryz.underlying25 (by kernel_rfl) (fits_S Tryz.underlying9 (by kernel_rfl))) rfl (fitsF_cons (fits_B Tryz.underlying4 (by kernel_rfl)) rfl (fitsF_cons (fits_S Tryz.underlying9 (by kernel_rfl)) rfl (fitsF_cons (fits_B Tryz.underlying4 (by kernel_rfl)) rfl (fitsF_one (fits_S Tryz.underlying9 (by kernel_rfl)) rfl))))))
set_option maxRecDepth 100000 in
theorem fits_Parcel : Fits shParcel Tryz.prog 46 := fits_struct Tryz.underlying46 (by kernel_rfl) (fitsF_cons (fits_I Tryz.underlying2 (by kernel_rfl)) rfl (fitsF_one (fits_L good_Image Tryz.underlying38 (by kernel_rfl) fits_Image) rfl))
set_option maxRecDepth 100000 in
theorem fits_Replica : Fits shReplica Tryz.prog 56 := fits_struct Tryz.underlying56 (by kernel_rfl) (fitsF_cons fits_Tree rfl (fitsF_cons (fits_I Tryz.underlying2 (by kernel_rfl)) rfl (fitsF_one (fits_L good_Parcel Tryz.underlying54 (by kernel_rfl) fits_Parcel) rfl)))
theorem g64 : Tryz.prog.globalNamed "internal/strconv.uint64pow10" = some 1 := by kernel_rfl
def cellsD : DataW Unit → List Value
  | .agg l => l.flatMap fun d => match d with
    | .lit (.int k z) => [Value.int k z]
    | .agg m => m.map fun e => match e with | .lit (.int k z) => Value.int k z | _ => undef
    | _ => [undef]
  | _ => []
def putG (h : Array Obj) (g : Nat) (d : DataW Unit) : Array Obj := h.modify g fun
  | .cells _ t frozen => .cells (cellsD d).toArray t frozen
  | o => o
noncomputable def laidWorld (os : Os) : World :=
  let w0 := World.holding Tryz.prog os ⟨#[], #[], []⟩
  { w0 with heap := putG (putG (putG (putG (putG (w0.heap) 4 Rows.laid_math_bits_deBruijn32tab) 5 Rows.laid_math_bits_deBruijn64tab) 1 Rows.laid_internal_strconv_uint64pow10) 3 Rows.laid_unicode_utf8_acceptRanges) 2 Rows.laid_unicode_utf8_first }
theorem laid_eq (w : World) : laidMetH Tryz.prog Rows.fnExactReplicaOkRow.laid w = laidMet Tryz.prog Rows.fnExactReplicaOkRow.laid w := by
  have e : (Rows.fnExactReplicaOkRow.laid.filter fun x => x.2.handleName?.isSome) = [] := by kernel_rfl
  unfold laidMetH
  rw [e]
theorem laidWorld_met (os : Os) (args : Array Value) : laidMetH Tryz.prog Rows.fnExactReplicaOkRow.laid ((laidWorld os).forCall (fun _ _ => 0) ⟨#[], args, []⟩).memory := by
  rw [laid_eq]
  exact laidMet_of_run3 8 (by kernel_rfl) (by kernel_rfl) (by kernel_rfl)
theorem tab_of_laid {W : World} (h : laidMetH Tryz.prog Rows.fnExactReplicaOkRow.laid W) : Tab W := by
  rw [laid_eq] at h
  have h2 : laidMet Tryz.prog (("internal/strconv.uint64pow10", Lib.tabData .u64 Lib.pow10Tab) :: [("unicode/utf8.acceptRanges", Rows.laid_unicode_utf8_acceptRanges), ("unicode/utf8.first", Rows.laid_unicode_utf8_first)]) W := (laidMet.tail (laidMet.tail (h)))
  exact Lib.tabIs_of_head (t := 313) (e := 251) (n := 20) g64 (by kernel_rfl) (by kernel_rfl) (by kernel_rfl) (by kernel_rfl) (by kernel_rfl) h2
set_option maxRecDepth 100000 in
theorem lifted (os : Os) (started : os.Started) (H : Type) (enc : TypeId × Value → H) :
    ReturnsInHanded {} Tryz.checked os 6 .any (fun w args => (Rows.fnExactReplicaOkSpec.pre enc Tryz.prog Tryz.f6 [] false w args ∧ laidMetH Tryz.prog Rows.fnExactReplicaOkRow.laid w) ∧ sizedMet enc Tryz.prog Tryz.f6 (OpenSpec.ofChange Rows.fnExactReplicaOkSpec) false w args)
      (Rows.fnExactReplicaOkSpec.post enc Tryz.prog Tryz.f6 false true false false) := by
  refine returnsInHanded_of_change_and (C := Tryz.checked) (X := fun w _ => laidMetH Tryz.prog Rows.fnExactReplicaOkRow.laid w) (fun _ _ _ hh h => h.of_heap hh) own started (by kernel_rfl) Tryz.func6
    (ChangeSpec.witness_at (enc := enc) (C := Tryz.checked) (os := os) (X := fun w _ => laidMetH Tryz.prog Rows.fnExactReplicaOkRow.laid w) false (laidWorld os) #[.agg #[.slice none 0 0, .int .i64 0, .slice none 0 0]] 8 rfl (by kernel_rfl) (by kernel_rfl) (by kernel_rfl) (by kernel_rfl) (by kernel_rfl) (laidWorld_met os _)) ?_
  intro W base args ds gs before hval0 hW _ _ hL _
  have hval : ∀ (j : Nat) t v, Tryz.f6.params[j]? = some t → args[j]? = some v → Value.okWide Tryz.prog W .any base t v := hval0
  have hW' := hW
  obtain ⟨p, q, hA0, hV, rfl, hfz, hnd⟩ := hW
  have hA : DataW.TrodAll enc Tryz.prog W 0 (fun _ => true) true Tryz.f6.params.toList args.toList ds p := hA0
  rw [Tryz.params6] at hA hval
  obtain ⟨v0, vs0, d0, ds0, p0, q0, hargs, rfl, rfl, h0, r0⟩ := trodAll_cons hA
  obtain ⟨rfl, rfl, rfl⟩ := trodAll_nil r0
  obtain rfl : args = #[v0] := by cases args; simp_all
  obtain ⟨rfl, rfl⟩ := trodVars_none hV
  have k0 := h0
  have lt0 : ∀ x ∈ p0, x.block < W.heap.size := by obtain ⟨m, hm⟩ := k0; exact DataW.trod_lt m _ _ _ hm
  obtain ⟨b0, rfl, _⟩ := okWide_struct Tryz.underlying56 (hval 0 56 v0 rfl rfl)
  obtain ⟨x0, w0⟩ : ∃ x, shReplica.rep W 0 W.heap.size b0.toList x := by obtain ⟨fuel, hf⟩ := h0; exact fits_Replica.two hf
  clear hA0 hval0
  refine (w0_FnExactReplicaOk W (.agg b0) x0 ⟨b0.toList, by simp, w0⟩ (tab_of_laid hL)).mono fun e W' ⟨he, bel⟩ => ?_
  subst he
  exact ⟨_, rfl, _, _, _, [], _, [], hW', trodAll_mk1 (shut_bool Tryz.underlying4 _), (trodAll_cons_mk (Below.trod laidOut (by kernel_rfl) (of_decide_eq_true (by kernel_rfl)) k0 bel lt0) trodAll_mk0), rfl, bel.frame _, fun h => by cases h⟩

theorem over : Rows.FnExactReplicaOkSaid :=
  OpenClaim.holds_of_wide 6 Tryz.f6 rfl rfl rfl rfl rfl rfl rfl ⟨rfl, rfl, rfl, rfl, rfl⟩ rfl rfl rfl rfl rfl called Tryz.func6 closed
    inst wrap
    (fun os started H enc _ => lifted os started H enc)

end Go.Proofs.YtanjmolgpkffoaaGreatDoor.fnExactReplicaOkDone
