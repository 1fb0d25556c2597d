/-
  The law FnExactBtCut holds: for every input the call returns true and its arguments read as before, the listed variables of the library holding what the program's text lays.
-/
import Derived.Test.YtojmcmghmnfjeaaGreatDoorRows
import Derived.Test.YtojmcmghmnfjeaaGreatDoorCards
import Derived.Test.YtojmcmghmnfjeaaGreatDoorTie
import Derived.Test.YtojmcmghmnfjeaaGreatDoorFnExactBtCutC
import Derived.Test.YtojmcmghmnfjeaaGreatDoorM1FnExactBtCutW
import Derived.Test.YtojmcmghmnfjeaaGreatDoorM1E
import Derived.Test.YtojmcmghmnfjeaaGreatDoorM1D
import Derived.WalkKit
import Derived.ProofKit
import Derived.OpenShut
import Derived.ShutString
import Derived.ChangeOld
import Derived.Below
import Derived.ChangeSame
import Derived.ChangeVars
import Derived.JoinedOf
import Derived.RowKit
import Derived.LaidLaws
import Derived.LaidHandle
import Derived.SevenTiedAt
import Derived.Stop.LaidErr
import Derived.Lib.LaidTab
import Derived.Deep.DeepLaidRun
namespace Go.Proofs.YtojmcmghmnfjeaaGreatDoor.fnExactBtCutDone
open Go.ChangeShapes Go.WideShapes Go.ChangeAt Go.RowKit Go.Proofs.YtojmcmghmnfjeaaGreatDoor
open Go.ChangeMaps (open_string shut_string)
set_option linter.unusedVariables false

theorem own : ownKnob Tryz.prog.godebug = none := by kernel_rfl
theorem laidOut : laidOutB Tryz.prog = true := by kernel_rfl
theorem wf64 {n : Int} (h : (Lit.int .i64 n).wf = true) : I64 n := bounds_i64 h
set_option maxRecDepth 100000 in
theorem fits_Page : Fits shPage Tryz.prog 55 := fits_struct Tryz.underlying55 (by kernel_rfl) (fitsF_cons (fits_B Tryz.underlying4 (by kernel_rfl)) rfl (fitsF_cons (fits_L good_S Tryz.underlying52 (by kernel_rfl) (fits_S Tryz.underlying9 (by kernel_rfl))) rfl (fitsF_cons (fits_L good_S Tryz.underlying52 (by kernel_rfl) (fits_S Tryz.underlying9 (by kernel_rfl))) rfl (fitsF_one (fits_L good_I Tryz.underlying53 (by kernel_rfl) (fits_I Tryz.underlying2 (by kernel_rfl))) rfl))))
set_option maxRecDepth 100000 in
theorem fits_Slot : Fits shSlot Tryz.prog 57 := fits_struct Tryz.underlying57 (by kernel_rfl) (fitsF_cons (fits_I Tryz.underlying2 (by kernel_rfl)) rfl (fitsF_one fits_Page rfl))
set_option maxRecDepth 100000 in
theorem fits_Btree : Fits shBtree Tryz.prog 24 := fits_struct Tryz.underlying24 (by kernel_rfl) (fitsF_cons (fits_I Tryz.underlying2 (by kernel_rfl)) rfl (fitsF_one (fits_L good_Slot Tryz.underlying22 (by kernel_rfl) fits_Slot) rfl))
theorem g64 : Tryz.prog.globalNamed "internal/strconv.uint64pow10" = some 1 := by kernel_rfl
def cellsD : DataW Unit → List Value
  | .agg l => l.flatMap fun d => match d with
    | .lit (.int k z) => [Value.int k z]
    | .agg m => m.map fun e => match e with | .lit (.int k z) => Value.int k z | _ => undef
    | _ => [undef]
  | _ => []
def putG (h : Array Obj) (g : Nat) (d : DataW Unit) : Array Obj := h.modify g fun
  | .cells _ t frozen => .cells (cellsD d).toArray t frozen
  | o => o
noncomputable def laidWorld (os : Os) : World :=
  let w0 := World.holding Tryz.prog os ⟨#[], #[], []⟩
  { w0 with heap := putG (putG (putG (putG (putG (w0.heap) 4 Rows.laid_math_bits_deBruijn32tab) 5 Rows.laid_math_bits_deBruijn64tab) 1 Rows.laid_internal_strconv_uint64pow10) 3 Rows.laid_unicode_utf8_acceptRanges) 2 Rows.laid_unicode_utf8_first }
theorem laid_eq (w : World) : laidMetH Tryz.prog Rows.fnExactBtCutRow.laid w = laidMet Tryz.prog Rows.fnExactBtCutRow.laid w := by
  have e : (Rows.fnExactBtCutRow.laid.filter fun x => x.2.handleName?.isSome) = [] := by kernel_rfl
  unfold laidMetH
  rw [e]
theorem laidWorld_met (os : Os) (args : Array Value) : laidMetH Tryz.prog Rows.fnExactBtCutRow.laid ((laidWorld os).forCall (fun _ _ => 0) ⟨#[], args, []⟩).memory := by
  rw [laid_eq]
  exact laidMet_of_run3 8 (by kernel_rfl) (by kernel_rfl) (by kernel_rfl)
theorem tab_of_laid {W : World} (h : laidMetH Tryz.prog Rows.fnExactBtCutRow.laid W) : Tab W := by
  rw [laid_eq] at h
  have h2 : laidMet Tryz.prog (("internal/strconv.uint64pow10", Lib.tabData .u64 Lib.pow10Tab) :: [("unicode/utf8.acceptRanges", Rows.laid_unicode_utf8_acceptRanges), ("unicode/utf8.first", Rows.laid_unicode_utf8_first)]) W := (laidMet.tail (laidMet.tail (h)))
  exact Lib.tabIs_of_head (t := 216) (e := 152) (n := 20) g64 (by kernel_rfl) (by kernel_rfl) (by kernel_rfl) (by kernel_rfl) (by kernel_rfl) h2
set_option maxRecDepth 100000 in
theorem lifted (os : Os) (started : os.Started) (H : Type) (enc : TypeId × Value → H) :
    ReturnsInHanded {} Tryz.checked os 3 .any (fun w args => (Rows.fnExactBtCutSpec.pre enc Tryz.prog Tryz.f3 [] false w args ∧ laidMetH Tryz.prog Rows.fnExactBtCutRow.laid w) ∧ sizedMet enc Tryz.prog Tryz.f3 (OpenSpec.ofChange Rows.fnExactBtCutSpec) false w args)
      (Rows.fnExactBtCutSpec.post enc Tryz.prog Tryz.f3 false true false false) := by
  refine handed_and_shaped (C := Tryz.checked) (X := fun w _ => laidMetH Tryz.prog Rows.fnExactBtCutRow.laid w) (fun _ _ _ hh h => h.of_heap hh) own started (by kernel_rfl) Tryz.func3
    (ChangeSpec.witness_at (enc := enc) (C := Tryz.checked) (os := os) (X := fun w _ => laidMetH Tryz.prog Rows.fnExactBtCutRow.laid w) false (laidWorld os) #[.agg #[.int .i64 0, .slice none 0 0], .string ByteArray.empty] 8 rfl (by kernel_rfl) (by kernel_rfl) (by kernel_rfl) (by kernel_rfl) (by kernel_rfl) (laidWorld_met os _)) ?_
  intro W base args ds gs before hval0 hW _ _ hL hSh _
  have hval : ∀ (j : Nat) t v, Tryz.f3.params[j]? = some t → args[j]? = some v → Value.okWide Tryz.prog W .any base t v := hval0
  have hW' := hW
  obtain ⟨p, q, hA0, hV, rfl, hfz, hnd⟩ := hW
  have hA : DataW.TrodAll enc Tryz.prog W 0 (fun _ => true) true Tryz.f3.params.toList args.toList ds p := hA0
  rw [Tryz.params3] at hA hval
  obtain ⟨v0, vs0, d0, ds0, p0, q0, hargs, rfl, rfl, h0, r0⟩ := trodAll_cons hA
  obtain ⟨v1, vs1, d1, ds1, p1, q1, rfl, rfl, rfl, h1, r1⟩ := trodAll_cons r0
  obtain ⟨rfl, rfl, rfl⟩ := trodAll_nil r1
  obtain rfl : args = #[v0, v1] := by cases args; simp_all
  obtain ⟨rfl, rfl⟩ := trodVars_none hV
  have k0 := h0
  have lt0 : ∀ x ∈ p0, x.block < W.heap.size := by obtain ⟨m, hm⟩ := k0; exact DataW.trod_lt m _ _ _ hm
  obtain ⟨b0, rfl, _⟩ := okWide_struct Tryz.underlying24 (hval 0 24 v0 rfl rfl)
  obtain ⟨x0, w0⟩ : ∃ x, shBtree.rep W 0 W.heap.size b0.toList x := by obtain ⟨fuel, hf⟩ := h0; exact fits_Btree.two hf
  obtain ⟨a1, rfl, rfl, rfl, w1⟩ := open_string Tryz.underlying9 (hval 1 9 v1 rfl rfl) h1
  clear hA0 hval0
  refine (w0_FnExactBtCut W (.agg b0) x0 ⟨b0.toList, by simp, w0⟩ a1 w1 (tab_of_laid hL) (maxL_shaped hSh)).mono fun e W' ⟨he, bel⟩ => ?_
  subst he
  exact ⟨_, rfl, _, _, _, [], _, [], hW', trodAll_mk1 (shut_bool Tryz.underlying4 _), (trodAll_cons_mk (Below.trod laidOut (by kernel_rfl) (of_decide_eq_true (by kernel_rfl)) k0 bel lt0) (trodAll_cons_mk (shut_string Tryz.underlying9 w1) trodAll_mk0)), rfl, bel.frame _, fun h => by cases h⟩

theorem over : Rows.FnExactBtCutSaid :=
  OpenClaim.holds_of_wide 3 Tryz.f3 rfl rfl rfl rfl rfl rfl rfl ⟨rfl, rfl, rfl, rfl, rfl⟩ rfl rfl rfl rfl rfl called Tryz.func3 closed
    inst wrap
    (fun os started H enc _ => lifted os started H enc)

end Go.Proofs.YtojmcmghmnfjeaaGreatDoor.fnExactBtCutDone
