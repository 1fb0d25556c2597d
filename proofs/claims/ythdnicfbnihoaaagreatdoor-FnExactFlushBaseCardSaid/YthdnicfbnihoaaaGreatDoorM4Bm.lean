/-
 Maps from numbers: to blocks (pointers),and sets whose size is known. No program is named here.
-/
import Derived.Test.YthdnicfbnihoaaaGreatDoorM4K
import Derived.Maps.Views
namespace Go.Proofs.YthdnicfbnihoaaaGreatDoor
open Go.RowKit Go.Maps Go.ChangeMaps Go.MapKept
set_option linter.unusedVariables false
def RP:Value→Option (DataW Unit × List MemPlace)
 | .pointer (some a)=>if a=⟨a.block,0,none⟩ then some (.lit (.int .i64 a.block),[]) else none
 | .pointer none=>some (.lit (.bool false),[])
 | _=>none
theorem rp_mk (g:Nat):RP (.pointer (some ⟨g,0,none⟩))=some (.lit (.int .i64 g),[]):=by simp [RP]
theorem rp_some {v:Value} {g:Nat} {ps:List MemPlace} (h:RP v=some (.lit (.int .i64 g),ps)):v=.pointer (some ⟨g,0,none⟩):=by
 unfold RP at h
 split at h
 · rename_i a
   split at h
   · rename_i ha
     simp only [Option.some.injEq,Prod.mk.injEq,DataW.lit.injEq,Lit.int.injEq,true_and] at h
     have:a.block=g:=by omega
     rw [ha,this]
   · cases h
 · simp at h
 · cases h
theorem rp_none {v:Value} {ps:List MemPlace} (h:RP v=some (.lit (.bool false),ps)):v=.pointer none:=by
 unfold RP at h
 split at h
 · split at h
   · simp at h
   · cases h
 · rfl
 · cases h
def PMap (P:Program) (k:TypeId) (w:World) (b n:Nat) (f:Int→Option Nat):Prop :=
 ∃D:DataW Unit,w.ownsMap P k RP b n D∧∀i:Int,I64 i→has D (.int .i64 i)=(f i).isSome∧∀g,f i=some g→∀z,D.atKey (.int .i64 i) z=.lit (.int .i64 g)
section
variable {P:Program} {k e:TypeId} {w w':World} {b n:Nat} {f:Int→Option Nat}
theorem PMap.made (w:World):PMap P k (w.alloc (.map #[] 0)) w.heap.size 0 (fun _=>none) :=
 ⟨.map [],World.ownsMap_made w P k _,fun i _=>⟨rfl,fun g hg=>by cases hg⟩⟩
theorem PMap.lt (h:PMap P k w b n f):b<w.heap.size:=by obtain ⟨D,h,_⟩:=h;exact h.lt
theorem PMap.same (h:PMap P k w b n f) (hk:w'.heap[b]?=w.heap[b]?):PMap P k w' b n f:=by
 obtain ⟨D,⟨es,clock,hb,F,hs,hD⟩,h2⟩:=h
 exact ⟨D,⟨es,clock,hk.trans hb,F,hs,hD⟩,h2⟩
theorem PMap.up (h:PMap P k w b n f) (u:Up w w'):PMap P k w' b n f:=h.same (u.block b h.lt)
theorem PMap.drew (h:PMap P k w b n f):PMap P k w.drew b n f:=h
theorem PMap.but {g:Nat} (h:PMap P k w b n f) (u:But g w w') (hg:b≠g):PMap P k w' b n f:=h.same (u.block b hg)
theorem PMap.ne (h:PMap P k w b n f) {g:Nat} {t:TypeId} {C:Array Value} (hk:Bk w g t C):g≠b:=by
 rintro rfl
 obtain ⟨D,⟨es,clock,hb,_⟩,_⟩:=h
 unfold Bk at hk
 rw [hk] at hb
 cases hb
def ptrOf:Option Nat→Value
 | some g=>.pointer (some ⟨g,0,none⟩)
 | none=>.pointer none
theorem PMap.val {D:DataW Unit} (hD:∀i:Int,I64 i→has D (.int .i64 i)=(f i).isSome∧∀g,f i=some g→∀z,D.atKey (.int .i64 i) z=.lit (.int .i64 g)) {i:Int} (hi:I64 i) {v:Value} {ps:List MemPlace} (hv:RP v=some (D.atKey (.int .i64 i) (.lit (.bool false)),ps)):v=ptrOf (f i):=by
 obtain ⟨h1,h2⟩:=hD i hi
 cases q:f i with
 | none =>
   rw [q] at h1
   rw [atKey_of_not_has h1] at hv
   exact rp_none hv
 | some g =>
   rw [h2 g q] at hv
   exact rp_some hv
theorem PMap.look_ok {t:TypeId} (h:PMap P k w b n f) (hk:P.underlying k=some (.int .i64)) (ht:P.underlying t=some (.map k e)) (hz:(zeroValue e).run P w=.ok (.pointer none) w) {i:Int} (hi:I64 i) :
   (Instr.lookup t (.map (some b)) (.int .i64 i) true).run P w=.ok (.tuple #[ptrOf (f i),.bool (f i).isSome]) w:=by
 obtain ⟨D,ho,hf⟩:=h
 obtain ⟨v,ps,hrun,hv⟩:=ho.look_ok (int_keyed hk) ht hz (zd:=.lit (.bool false)) (zp:=[]) rfl (keyOf_int_mk hk (i64_wf hi))
 rw [hrun,(hf i hi).1,PMap.val hf hi hv]
theorem PMap.look {t:TypeId} (h:PMap P k w b n f) (hk:P.underlying k=some (.int .i64)) (ht:P.underlying t=some (.map k e)) (hz:(zeroValue e).run P w=.ok (.pointer none) w) {i:Int} (hi:I64 i) :
   (Instr.lookup t (.map (some b)) (.int .i64 i) false).run P w=.ok (ptrOf (f i)) w:=by
 obtain ⟨D,ho,hf⟩:=h
 obtain ⟨v,ps,hrun,hv⟩:=ho.lookup (int_keyed hk) ht hz (zd:=.lit (.bool false)) (zp:=[]) rfl (keyOf_int_mk hk (i64_wf hi))
 rw [hrun,PMap.val hf hi hv]
theorem but_of_turned {w w':World} {b:Nat} (h:w.mapTurned w' b):But b w w':=by
 obtain ⟨es,clock,es',clock',hb,rfl⟩:=h
 exact ⟨rfl,rfl,rfl,by simp [setBlock],fun i hi=>heap_setBlock_other hb _ hi⟩
theorem PMap.put {t:TypeId} (h:PMap P k w b n f) (hk:P.underlying k=some (.int .i64)) (ht:P.underlying t=some (.map k e)) (hn:n<maxLen) {i:Int} (hi:I64 i) (g:Nat) :
   ∃w',(Instr.mapUpdate t (.map (some b)) (.int .i64 i) (.pointer (some ⟨g,0,none⟩))).run P w=.ok () w'∧PMap P k w' b (n+1) (fun j=>if j=i then some g else f j)∧But b w w':=by
 obtain ⟨D,ho,hf⟩:=h
 have hm:=ho.isMap
 obtain ⟨w',hrun,ho',hg⟩:=ho.store (int_keyed hk) ht hn (keyOf_int_mk hk (i64_wf hi)) (rp_mk g)
 refine ⟨w',hrun,⟨_,ho',fun j hj=>?_⟩,but_of_turned hg⟩
 by_cases e:j=i
 · subst e
   dsimp only
   rw [if_pos rfl]
   refine ⟨has_put_same hm (by simp [WideAt.IsKeyLit]) _,fun g' hg' z=>?_⟩
   cases hg'
   exact atKey_put_same hm (by simp [WideAt.IsKeyLit]) _ _
 · dsimp only
   rw [if_neg e,has_put_other (by simpa using e)]
   refine ⟨(hf j hj).1,fun g' hg' z=>?_⟩
   rw [atKey_put_other (by simpa using e)]
   exact (hf j hj).2 g' hg' z
end
def MSet (P:Program) (k e:TypeId) (w:World) (b:Nat) (l:List Int):Prop :=
 l.Nodup∧∃D:DataW Unit,w.ownsMap P k (plainElem P e) b l.length D∧Maps.size D=l.length∧∀i:Int,I64 i→has D (.int .i64 i)=l.contains i∧D.atKey (.int .i64 i) (.lit (.bool false))=.lit (.bool (l.contains i))
section
variable {P:Program} {k e:TypeId} {w w':World} {b:Nat} {l:List Int}
theorem MSet.made (w:World):MSet P k e (w.alloc (.map #[] 0)) w.heap.size [] :=
 ⟨List.nodup_nil,.map [],World.ownsMap_made w P k _,rfl,fun i _=>⟨rfl,by simp [DataW.atKey]⟩⟩
theorem MSet.lt (h:MSet P k e w b l):b<w.heap.size:=by obtain ⟨_,D,h,_⟩:=h;exact h.lt
theorem MSet.same (h:MSet P k e w b l) (hk:w'.heap[b]?=w.heap[b]?):MSet P k e w' b l:=by
 obtain ⟨h0,D,⟨es,clock,hb,F,hs,hD⟩,h2⟩:=h
 exact ⟨h0,D,⟨es,clock,hk.trans hb,F,hs,hD⟩,h2⟩
theorem MSet.up (h:MSet P k e w b l) (u:Up w w'):MSet P k e w' b l:=h.same (u.block b h.lt)
theorem MSet.drew (h:MSet P k e w b l):MSet P k e w.drew b l:=h
theorem MSet.ne (h:MSet P k e w b l) {g:Nat} {t:TypeId} {C:Array Value} (hk:Bk w g t C):g≠b:=by
 rintro rfl
 obtain ⟨_,D,⟨es,clock,hb,_⟩,_⟩:=h
 unfold Bk at hk
 rw [hk] at hb
 cases hb
theorem MSet.but {g:Nat} (h:MSet P k e w b l) (u:But g w w') (hg:b≠g):MSet P k e w' b l:=h.same (u.block b hg)
theorem MSet.look {t:TypeId} (h:MSet P k e w b l) (hk:P.underlying k=some (.int .i64)) (ht:P.underlying t=some (.map k e)) (he:P.underlying e=some .bool) (hz:(zeroValue e).run P w=.ok (.bool false) w) {i:Int} (hi:I64 i) :
   (Instr.lookup t (.map (some b)) (.int .i64 i) false).run P w=.ok (.bool (l.contains i)) w:=by
 obtain ⟨_,D,ho,_,hf⟩:=h
 obtain ⟨v,ps,hrun,hv⟩:=ho.lookup (int_keyed hk) ht hz (plainElem_bool he false) (keyOf_int_mk hk (i64_wf hi))
 obtain ⟨x,rfl,hx⟩:=plainElem_bool_inv he hv
 rw [(hf i hi).2] at hx
 simp only [Prod.mk.injEq,DataW.lit.injEq,Lit.bool.injEq] at hx
 rw [hrun,hx.1]
theorem MSet.len {t:TypeId} (h:MSet P k e w b l) (ht:P.underlying t=some (.map k e)) (ty:TypeId):(Builtin.len_ #[t] ty #[.map (some b)]).run P w=.ok (.int .i64 l.length) w:=by
 obtain ⟨_,D,ho,hs,_⟩:=h
 rw [ho.len ht,hs]
theorem MSet.add {t:TypeId} (h:MSet P k e w b l) (hk:P.underlying k=some (.int .i64)) (ht:P.underlying t=some (.map k e)) (he:P.underlying e=some .bool) (hn:l.length<maxLen) {i:Int} (hi:I64 i) (hni:l.contains i=false) :
   ∃w',(Instr.mapUpdate t (.map (some b)) (.int .i64 i) (.bool true)).run P w=.ok () w'∧MSet P k e w' b (l++[i])∧But b w w':=by
 obtain ⟨h0,D,ho,hs,hf⟩:=h
 have hm:=ho.isMap
 have hT:=ho.tidy (int_keyed hk)
 obtain ⟨w',hrun,ho',hg⟩:=ho.store (int_keyed hk) ht hn (keyOf_int_mk hk (i64_wf hi)) (plainElem_bool he true)
 refine ⟨w',hrun,⟨?_,_,by rw [List.length_append];exact ho',?_,fun j hj=>?_⟩,but_of_turned hg⟩
 · refine List.nodup_append.2 ⟨h0,by simp,?_⟩
   rintro a ha c hc rfl
   obtain rfl:a=i:=by simpa using hc
   simp at hni
   exact hni ha
 · rw [size_put hT,(hf i hi).1,hni,hs,List.length_append]
   rfl
 · by_cases e:j=i
   · subst e
     have hc:(l++[j]).contains j=true:=by simp
     rw [hc,atKey_put_same hm (by simp [WideAt.IsKeyLit])]
     exact ⟨has_put_same hm (by simp [WideAt.IsKeyLit]) _,rfl⟩
   · have hc:(l++[i]).contains j=l.contains j:=by
       rw [Bool.eq_iff_iff]
       simp [e]
     rw [hc,has_put_other (by simpa using e),atKey_put_other (by simpa using e)]
     exact hf j hj
end
end Go.Proofs.YthdnicfbnihoaaaGreatDoor
