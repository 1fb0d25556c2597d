/-
 The law FnExactFlushBase holds: for every input the call returns true and its arguments read as before,the listed variables of the library holding what the program's text lays.
-/
import Derived.Test.YthdnicfbnihoaaaGreatDoorRows
import Derived.Test.YthdnicfbnihoaaaGreatDoorCards
import Derived.Test.YthdnicfbnihoaaaGreatDoorTie
import Derived.Test.YthdnicfbnihoaaaGreatDoorFnExactFlushBaseC
import Derived.Test.YthdnicfbnihoaaaGreatDoorM4FnExactFlushBaseW
import Derived.Test.YthdnicfbnihoaaaGreatDoorM4E
import Derived.Test.YthdnicfbnihoaaaGreatDoorM4D
import Derived.WalkKit
import Derived.ProofKit
import Derived.OpenShut
import Derived.ShutString
import Derived.ChangeOld
import Derived.Below
import Derived.ChangeSame
import Derived.ChangeVars
import Derived.JoinedOf
import Derived.RowKit
import Derived.LaidLaws
import Derived.LaidHandle
import Derived.SevenTiedAt
import Derived.Stop.LaidErr
import Derived.Lib.LaidTab
import Derived.Deep.DeepLaidRun
set_option maxRecDepth 100000
namespace Go.Proofs.YthdnicfbnihoaaaGreatDoor.fnExactFlushBaseDone
open Go.ChangeShapes Go.WideShapes Go.ChangeAt Go.RowKit Go.Proofs.YthdnicfbnihoaaaGreatDoor
open Go.ChangeMaps (open_string shut_string)
set_option linter.unusedVariables false
theorem own:ownKnob Tryz.prog.godebug=none:=by kernel_rfl
theorem laidOut:laidOutB Tryz.prog=true:=by kernel_rfl
theorem wf64 {n:Int} (h:(Lit.int .i64 n).wf=true):I64 n:=bounds_i64 h
theorem fits_Page:Fits shPage Tryz.prog 107:=fits_struct Tryz.underlying107 (by kernel_rfl) (fitsF_cons (fits_B Tryz.underlying4 (by kernel_rfl)) rfl (fitsF_cons (fits_L good_S Tryz.underlying25 (by kernel_rfl) (fits_S Tryz.underlying9 (by kernel_rfl))) rfl (fitsF_cons (fits_L good_S Tryz.underlying25 (by kernel_rfl) (fits_S Tryz.underlying9 (by kernel_rfl))) rfl (fitsF_one (fits_L good_I Tryz.underlying32 (by kernel_rfl) (fits_I Tryz.underlying2 (by kernel_rfl))) rfl))))
theorem fits_Slot:Fits shSlot Tryz.prog 109:=fits_struct Tryz.underlying109 (by kernel_rfl) (fitsF_cons (fits_I Tryz.underlying2 (by kernel_rfl)) rfl (fitsF_one fits_Page rfl))
theorem fits_Btree:Fits shBtree Tryz.prog 24:=fits_struct Tryz.underlying24 (by kernel_rfl) (fitsF_cons (fits_I Tryz.underlying2 (by kernel_rfl)) rfl (fitsF_one (fits_L good_Slot Tryz.underlying22 (by kernel_rfl) fits_Slot) rfl))
theorem fits_Put:Fits shPut Tryz.prog 159:=fits_struct Tryz.underlying159 (by kernel_rfl) (fitsF_cons (fits_I Tryz.underlying2 (by kernel_rfl)) rfl (fitsF_one (fits_S Tryz.underlying9 (by kernel_rfl)) rfl))
theorem fits_Disk:Fits shDisk Tryz.prog 28:=fits_struct Tryz.underlying28 (by kernel_rfl) (fitsF_cons (fits_I Tryz.underlying2 (by kernel_rfl)) rfl (fitsF_cons (fits_L good_S Tryz.underlying25 (by kernel_rfl) (fits_S Tryz.underlying9 (by kernel_rfl))) rfl (fitsF_one (fits_L good_Put Tryz.underlying26 (by kernel_rfl) fits_Put) rfl)))
theorem fits_Seat:Fits shSeat Tryz.prog 132:=fits_struct Tryz.underlying132 (by kernel_rfl) (fitsF_cons (fits_I Tryz.underlying2 (by kernel_rfl)) rfl (fitsF_one (fits_I Tryz.underlying2 (by kernel_rfl)) rfl))
theorem fits_Top:Fits shTop Tryz.prog 31:=fits_struct Tryz.underlying31 (by kernel_rfl) (fitsF_cons (fits_I Tryz.underlying2 (by kernel_rfl)) rfl (fitsF_cons (fits_I Tryz.underlying2 (by kernel_rfl)) rfl (fitsF_cons (fits_I Tryz.underlying2 (by kernel_rfl)) rfl (fitsF_one (fits_L good_Seat Tryz.underlying29 (by kernel_rfl) fits_Seat) rfl))))
theorem fits_Cache:Fits shCache Tryz.prog 34:=fits_struct Tryz.underlying34 (by kernel_rfl) (fitsF_cons fits_Disk rfl (fitsF_cons fits_Top rfl (fitsF_cons fits_Top rfl (fitsF_cons (fits_L good_Seat Tryz.underlying29 (by kernel_rfl) fits_Seat) rfl (fitsF_one (fits_L good_I Tryz.underlying32 (by kernel_rfl) (fits_I Tryz.underlying2 (by kernel_rfl))) rfl)))))
theorem fits_Journal:Fits shJournal Tryz.prog 36:=fits_struct Tryz.underlying36 (by kernel_rfl) (fitsF_cons fits_Disk rfl (fitsF_cons (fits_I Tryz.underlying2 (by kernel_rfl)) rfl (fitsF_cons (fits_I Tryz.underlying2 (by kernel_rfl)) rfl (fitsF_cons (fits_I Tryz.underlying2 (by kernel_rfl)) rfl (fitsF_one (fits_I Tryz.underlying2 (by kernel_rfl)) rfl)))))
theorem fits_Base:Fits shBase Tryz.prog 38:=fits_struct Tryz.underlying38 (by kernel_rfl) (fitsF_cons fits_Btree rfl (fitsF_cons fits_Cache rfl (fitsF_cons fits_Journal rfl (fitsF_cons (fits_I Tryz.underlying2 (by kernel_rfl)) rfl (fitsF_one (fits_I Tryz.underlying2 (by kernel_rfl)) rfl)))))
theorem g64 : Tryz.prog.globalNamed "internal/strconv.uint64pow10" = some 1 := by kernel_rfl
def cellsD:DataW Unit→List Value
 | .agg l=>l.flatMap fun d=>match d with
   | .lit (.int k z)=>[Value.int k z]
   | .agg m=>m.map fun e=>match e with | .lit (.int k z)=>Value.int k z | _=>undef
   | _=>[undef]
 | _=>[]
def putG (h:Array Obj) (g:Nat) (d:DataW Unit):Array Obj:=h.modify g fun
 | .cells _ t frozen=>.cells (cellsD d).toArray t frozen
 | o=>o
noncomputable def laidWorld (os:Os):World :=
 let w0:=World.holding Tryz.prog os ⟨#[],#[],[]⟩
 { w0 with heap:=putG (putG (putG (putG (putG (w0.heap) 4 Rows.laid_math_bits_deBruijn32tab) 5 Rows.laid_math_bits_deBruijn64tab) 1 Rows.laid_internal_strconv_uint64pow10) 3 Rows.laid_unicode_utf8_acceptRanges) 2 Rows.laid_unicode_utf8_first }
theorem laid_eq (w:World):laidMetH Tryz.prog Rows.fnExactFlushBaseRow.laid w=laidMet Tryz.prog Rows.fnExactFlushBaseRow.laid w:=by
 have e:(Rows.fnExactFlushBaseRow.laid.filter fun x=>x.2.handleName?.isSome)=[]:=by kernel_rfl
 unfold laidMetH
 rw [e]
theorem laidWorld_met (os:Os) (args:Array Value):laidMetH Tryz.prog Rows.fnExactFlushBaseRow.laid ((laidWorld os).forCall (fun _ _=>0) ⟨#[],args,[]⟩).memory:=by
 rw [laid_eq]
 exact laidMet_of_run3 8 (by kernel_rfl) (by kernel_rfl) (by kernel_rfl)
theorem tab_of_laid {W:World} (h:laidMetH Tryz.prog Rows.fnExactFlushBaseRow.laid W):Tab W:=by
 rw [laid_eq] at h
 have h2 : laidMet Tryz.prog (("internal/strconv.uint64pow10", Lib.tabData .u64 Lib.pow10Tab) :: [("unicode/utf8.acceptRanges", Rows.laid_unicode_utf8_acceptRanges), ("unicode/utf8.first", Rows.laid_unicode_utf8_first)]) W := (laidMet.tail (laidMet.tail (h)))
 exact Lib.tabIs_of_head (t:=248) (e:=203) (n:=20) g64 (by kernel_rfl) (by kernel_rfl) (by kernel_rfl) (by kernel_rfl) (by kernel_rfl) h2
theorem lifted (os:Os) (started:os.Started) (H:Type) (enc:TypeId × Value→H) :
   ReturnsInHanded {} Tryz.checked os 3 .any (fun w args=>(Rows.fnExactFlushBaseSpec.pre enc Tryz.prog Tryz.f3 [] false w args∧laidMetH Tryz.prog Rows.fnExactFlushBaseRow.laid w)∧sizedMet enc Tryz.prog Tryz.f3 (OpenSpec.ofChange Rows.fnExactFlushBaseSpec) false w args)
     (Rows.fnExactFlushBaseSpec.post enc Tryz.prog Tryz.f3 false true false false):=by
 refine handed_and_shaped (C:=Tryz.checked) (X:=fun w _=>laidMetH Tryz.prog Rows.fnExactFlushBaseRow.laid w) (fun _ _ _ hh h=>h.of_heap hh) own started (by kernel_rfl) Tryz.func3
   (ChangeSpec.witness_at (enc:=enc) (C:=Tryz.checked) (os:=os) (X:=fun w _=>laidMetH Tryz.prog Rows.fnExactFlushBaseRow.laid w) false (laidWorld os) #[.agg #[.int .i64 0,.slice none 0 0,.int .i64 0,.slice none 0 0,.slice none 0 0,.int .i64 0,.int .i64 0,.int .i64 0,.slice none 0 0,.int .i64 0,.int .i64 0,.int .i64 0,.slice none 0 0,.slice none 0 0,.slice none 0 0,.int .i64 0,.slice none 0 0,.slice none 0 0,.int .i64 0,.int .i64 0,.int .i64 0,.int .i64 0,.int .i64 0,.int .i64 0]] 8 rfl (by kernel_rfl) (by kernel_rfl) (by kernel_rfl) (by kernel_rfl) (by kernel_rfl) (laidWorld_met os _)) ?_
 intro W base args ds gs before hval0 hW _ _ hL hSh _
 have hval:∀(j:Nat) t v,Tryz.f3.params[j]?=some t→args[j]?=some v→Value.okWide Tryz.prog W .any base t v:=hval0
 have hW':=hW
 obtain ⟨p,q,hA0,hV,rfl,hfz,hnd⟩:=hW
 have hA:DataW.TrodAll enc Tryz.prog W 0 (fun _=>true) true Tryz.f3.params.toList args.toList ds p:=hA0
 rw [Tryz.params3] at hA hval
 obtain ⟨v0,vs0,d0,ds0,p0,q0,hargs,rfl,rfl,h0,r0⟩:=trodAll_cons hA
 obtain ⟨rfl,rfl,rfl⟩:=trodAll_nil r0
 obtain rfl:args=#[v0]:=by cases args;simp_all
 obtain ⟨rfl,rfl⟩:=trodVars_none hV
 have k0:=h0
 have lt0:∀x∈p0,x.block<W.heap.size:=by obtain ⟨m,hm⟩:=k0;exact DataW.trod_lt m _ _ _ hm
 obtain ⟨b0,rfl,_⟩:=okWide_struct Tryz.underlying38 (hval 0 38 v0 rfl rfl)
 obtain ⟨x0,w0⟩:∃x,shBase.rep W 0 W.heap.size b0.toList x:=by obtain ⟨fuel,hf⟩:=h0;exact fits_Base.two hf
 clear hA0 hval0
 refine (w0_FnExactFlushBase W (.agg b0) x0 ⟨b0.toList,by simp,w0⟩ (tab_of_laid hL) (maxL_shaped hSh)).mono fun e W' ⟨he,bel⟩=>?_
 subst he
 exact ⟨_,rfl,_,_,_,[],_,[],hW',trodAll_mk1 (shut_bool Tryz.underlying4 _),(trodAll_cons_mk (Below.trod laidOut (by kernel_rfl) (of_decide_eq_true (by kernel_rfl)) k0 bel lt0) trodAll_mk0),rfl,bel.frame _,fun h=>by cases h⟩
theorem over:Rows.FnExactFlushBaseSaid :=
 OpenClaim.holds_of_wide 3 Tryz.f3 rfl rfl rfl rfl rfl rfl rfl ⟨rfl,rfl,rfl,rfl,rfl⟩ rfl rfl rfl rfl rfl called Tryz.func3 closed
   inst wrap
   (fun os started H enc _=>lifted os started H enc)
end Go.Proofs.YthdnicfbnihoaaaGreatDoor.fnExactFlushBaseDone
