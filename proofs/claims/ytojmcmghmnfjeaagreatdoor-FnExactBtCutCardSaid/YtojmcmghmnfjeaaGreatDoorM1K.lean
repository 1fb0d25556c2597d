/-
 Parts of the proof.
-/
import Derived.Test.YtojmcmghmnfjeaaGreatDoorM1G
import Derived.Shelf.Abstract
import Derived.Test.YtojmcmghmnfjeaaGreatDoorM1M
import Derived.Maps.Own
import Derived.Maps.OwnSet
import Derived.Deep.MidRow
namespace Go.Proofs.YtojmcmghmnfjeaaGreatDoor
open Go.RowKit
set_option linter.unusedVariables false
set_option linter.unusedSimpArgs false
end Go.Proofs.YtojmcmghmnfjeaaGreatDoor
namespace Go.Proofs.YtojmcmghmnfjeaaGreatDoor
open Go.RowKit
set_option linter.unusedVariables false
end Go.Proofs.YtojmcmghmnfjeaaGreatDoor
namespace Go.Proofs.YtojmcmghmnfjeaaGreatDoor
open Go.RowKit
set_option linter.unusedVariables false
set_option linter.unusedSimpArgs false
end Go.Proofs.YtojmcmghmnfjeaaGreatDoor
namespace Go.Proofs.YtojmcmghmnfjeaaGreatDoor
open Go.RowKit
set_option linter.unusedVariables false
end Go.Proofs.YtojmcmghmnfjeaaGreatDoor
namespace Go.Proofs.YtojmcmghmnfjeaaGreatDoor
open Go.RowKit Go.Maps
set_option linter.unusedVariables false
section
variable {P:Program} {k e:TypeId} {w w':World} {b n:Nat} {f:Int→Bool}
theorem i64_wf {i:Int} (h:I64 i):(Lit.int .i64 i).wf=true:=by
 obtain ⟨h1,h2⟩:=h
 simp [Lit.wf,IntKind.min,IntKind.max,IntKind.signed,IntKind.bits]
 omega
theorem plainElem_bool_inv {H:Type} (he:P.underlying e=some .bool) {v:Value} {z:DataW H×List MemPlace} (h:plainElem P e v=some z):∃x,v=.bool x∧z=(.lit (.bool x),[]):=by
 unfold plainElem at h
 rw [he] at h
 cases v <;> simp at h
 exact ⟨_,rfl,h.symm⟩
end
end Go.Proofs.YtojmcmghmnfjeaaGreatDoor
namespace Go.Proofs.YtojmcmghmnfjeaaGreatDoor
open Go.RowKit
set_option linter.unusedVariables false
set_option linter.unusedSimpArgs false
theorem Bk.range {w:World} {g:Nat} {t:TypeId} {C:Array Value} (k:Bk w g t C) (o:Nat) (cs:List Value) (h:(C.toList.drop o).take cs.length=cs):w.rangeAt g o cs:=fun j v hv=>by
 rw [k.cell,←hv,←h]
 have hj:j<cs.length:=(List.getElem?_eq_some_iff.1 hv).1
 rw [List.getElem?_take,if_pos hj,List.getElem?_drop,Array.getElem?_toList]
theorem Bk.there {w:World} {g:Nat} {t:TypeId} {C:Array Value} (k:Bk w g t C) (o n:Nat) (h:o+n≤C.size):w.there g o n:=fun j hj=>by
 refine ⟨?_,k.frozen _⟩
 rw [k.cell,Array.getElem?_eq_getElem (by omega)]
 rfl
theorem setCells_wld (g:Nat):∀(cs:List Value) (w:World) (p:Nat),w.setCells g p cs=setCells w g p cs
 | [],_,_=>rfl
 | c::cs,w,p=>setCells_wld g cs _ _
def putL:List Value→Nat→List Value→List Value
 | [],_,_=>[]
 | x::l,0,c::cs=>c::putL l 0 cs
 | x::l,0,[]=>x::l
 | x::l,p+1,cs=>x::putL l p cs
theorem putL_nil:∀(l:List Value) (p:Nat),putL l p []=l
 | [],_=>rfl
 | _::_,0=>rfl
 | x::l,p+1=>by rw [putL,putL_nil l p]
theorem putL_set (c:Value) (cs:List Value):∀(l:List Value) (p:Nat),putL (l.set p c) (p+1) cs=putL l p (c::cs)
 | [],_=>rfl
 | x::l,0=>by rw [sZ,putL,putL]
 | x::l,p+1=>by rw [sS,putL,putL,putL_set c cs l p]
theorem putCells_eq:∀(cs:List Value) (C:Array Value) (p:Nat),putCells C p cs=(putL C.toList p cs).toArray
 | [],C,p=>by rw [putL_nil];rfl
 | c::cs,C,p=>by
  show putCells (C.setIfInBounds p c) (p+1) cs=_
  rw [putCells_eq cs,Array.toList_setIfInBounds,putL_set]
theorem Bk.setsL {w:World} {g:Nat} {t:TypeId} {C:Array Value} (k:Bk w g t C) (cs:List Value) (p:Nat):Bk (setCells w g p cs) g t (putL C.toList p cs).toArray:=putCells_eq cs C p▸k.sets cs p
section
variable {P:Program} {ops:Array Oper} {rest:List Oper} {dst:Option Tmp} {ty ty':TypeId} {x y:Operand} {pos:String} {after:Array Edge} {a:Act} {w:World} {Q:Exit→Act→World→Prop} {g o:Nat} {t:TypeId} {C:Array Value}
end
theorem Bk.butM {w w':World} {g g':Nat} {t:TypeId} {C:Array Value} (h:Bk w g t C) (k:But g' w w') (hg:g≠g'):Bk w' g t C:=(k.block g hg).trans h
theorem run_loadVar_bk {P:Program} {w:World} {g:Nat} {t:TypeId} {C:Array Value} (k:Bk w g t C) (ty:TypeId) {d:TypeDesc} (hu:P.underlying ty=some d) (hd:d.isRow=true) (hi:(P.info? ty).map (·.size)=some C.size) :
 (loadVar ty ⟨g,0,none⟩).run P w=.ok (.agg C) w:=by
 have h:=run_loadVar_mid (P:=P) w g 0 ty C.toList d (k.range 0 C.toList (by rw [List.drop_zero,List.take_length])) hu hd (by simpa using hi)
 simpa using h
theorem results_bk {P:Program} {fn:Func} {tmps:Array Value} {w:World} {g:Nat} {t:TypeId} {C:Array Value} (k:Bk w g t C) (n:Nat) (ty:TypeId) {d:TypeDesc} (hr:fn.results=#[.cell n ty]) (ht:tmps.getD n undef=.pointer (some ⟨g,0,none⟩))
 (hu:P.underlying ty=some d) (hd:d.isRow=true) (hi:(P.info? ty).map (·.size)=some C.size):(results fn tmps).run P w=.ok (.agg C) w:=by
 have h:=run_loadVar_bk (P:=P) k ty hu hd hi
 unfold results
 rw [hr]
 simp only [List.mapM_toArray,List.mapM_cons,List.mapM_nil,ht,asAddr,Sem.run_bind,Sem.run_pure,Result.andThen_ok,h,pure_bind,map_pure,Sem.run_map]
 simp [h]
theorem results_bk2 {P:Program} {fn:Func} {tmps:Array Value} {w:World} {g:Nat} {t:TypeId} {C:Array Value} (k:Bk w g t C) (n m:Nat) (ty:TypeId) {d:TypeDesc} {v:Value} (hr:fn.results=#[.cell n ty,.tmp m]) (ht:tmps.getD n undef=.pointer (some ⟨g,0,none⟩)) (hv:tmps.getD m undef=v)
 (hu:P.underlying ty=some d) (hd:d.isRow=true) (hi:(P.info? ty).map (·.size)=some C.size):(results fn tmps).run P w=.ok (.tuple #[.agg C,v]) w:=by
 have h:=run_loadVar_bk (P:=P) k ty hu hd hi
 unfold results
 rw [hr]
 simp only [List.mapM_toArray,List.mapM_cons,List.mapM_nil,ht,hv,asAddr,Sem.run_bind,Sem.run_pure,Result.andThen_ok,h,pure_bind,map_pure,Sem.run_map]
 simp [h]
theorem SO.but {α:Type} {s:Sh α} (hg:Good s) {w w':World} {lo g:Nat} {A:Option Addr} {c:Nat} {xs:List α} {bl:List Nat} (h:SO s w lo w.heap.size A c xs bl) (b:But g w w') (hlt:g<lo):SO s w' lo w'.heap.size A c xs bl:=by
 rw [b.size]
 exact h.keep hg (fun x hx=>b.block x (by have:=(h.in_ hg x hx).1;omega))
theorem own_but {α:Type} {s:Sh α} (hg:Good s) {w w':World} {lo g:Nat} {cs:List Value} {x:α} {bl:List Nat} (h:s.own w lo w.heap.size cs x bl) (b:But g w w') (hlt:g<lo):s.own w' lo w'.heap.size cs x bl:=by
 rw [b.size]
 exact hg.own_keep h (fun x hx=>b.block x (by have:=(hg.own_in h x hx).1;omega))
end Go.Proofs.YtojmcmghmnfjeaaGreatDoor
