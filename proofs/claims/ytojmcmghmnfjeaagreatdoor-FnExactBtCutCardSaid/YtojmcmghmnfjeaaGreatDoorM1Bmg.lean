/-
 Parts of the proof.
-/
import Derived.Test.YtojmcmghmnfjeaaGreatDoorM1K
import Derived.Maps.Views
import Derived.Test.YtojmcmghmnfjeaaGreatDoorM1Bpg
set_option maxHeartbeats 8000000
set_option maxRecDepth 100000
namespace Go.Proofs.YtojmcmghmnfjeaaGreatDoor
open Go.RowKit Go.Maps Go.ChangeMaps Go.MapKept
set_option linter.unusedVariables false
def RP:Value→Option (DataW Unit×List MemPlace)
 | .pointer (some a)=>if a=⟨a.block,0,none⟩ then some (.lit (.int .i64 a.block),[]) else none
 | .pointer none=>some (.lit (.bool false),[])
 | _=>none
theorem rp_mk (g:Nat):RP (.pointer (some ⟨g,0,none⟩))=some (.lit (.int .i64 g),[]):=by simp [RP]
theorem rp_some {v:Value} {g:Nat} {ps:List MemPlace} (h:RP v=some (.lit (.int .i64 g),ps)):v=.pointer (some ⟨g,0,none⟩):=by
 unfold RP at h
 split at h
 ·rename_i a
  split at h
  ·rename_i ha
   simp only [Option.some.injEq,Prod.mk.injEq,DataW.lit.injEq,Lit.int.injEq,true_and] at h
   have:a.block=g:=by omega
   rw [ha,this]
  ·cases h
 ·simp at h
 ·cases h
theorem rp_none {v:Value} {ps:List MemPlace} (h:RP v=some (.lit (.bool false),ps)):v=.pointer none:=by
 unfold RP at h
 split at h
 ·split at h
  ·simp at h
  ·cases h
 ·rfl
 ·cases h
def PMap (P:Program) (k:TypeId) (w:World) (b n:Nat) (f:Int→Option Nat):Prop :=
 ∃D:DataW Unit,w.ownsMap P k RP b n D∧∀i:Int,I64 i→has D (.int .i64 i)=(f i).isSome∧∀g,f i=some g→∀z,D.atKey (.int .i64 i) z=.lit (.int .i64 g)
section
variable {P:Program} {k e:TypeId} {w w':World} {b n:Nat} {f:Int→Option Nat}
theorem PMap.made (w:World):PMap P k (w.alloc (.map #[] 0)) w.heap.size 0 (fun _=>none) :=
 ⟨.map [],World.ownsMap_made w P k _,fun i _=>⟨rfl,fun g hg=>by cases hg⟩⟩
theorem PMap.lt (h:PMap P k w b n f):b<w.heap.size:=by obtain ⟨D,h,_⟩:=h;exact h.lt
theorem PMap.same (h:PMap P k w b n f) (hk:w'.heap[b]?=w.heap[b]?):PMap P k w' b n f:=by
 obtain ⟨D,⟨es,clock,hb,F,hs,hD⟩,h2⟩:=h
 exact ⟨D,⟨es,clock,hk.trans hb,F,hs,hD⟩,h2⟩
theorem PMap.up (h:PMap P k w b n f) (u:Up w w'):PMap P k w' b n f:=h.same (u.block b h.lt)
theorem PMap.drew (h:PMap P k w b n f):PMap P k w.drew b n f:=h
theorem PMap.but {g:Nat} (h:PMap P k w b n f) (u:But g w w') (hg:b≠g):PMap P k w' b n f:=h.same (u.block b hg)
theorem PMap.ne (h:PMap P k w b n f) {g:Nat} {t:TypeId} {C:Array Value} (hk:Bk w g t C):g≠b:=by
 rintro rfl
 obtain ⟨D,⟨es,clock,hb,_⟩,_⟩:=h
 unfold Bk at hk
 rw [hk] at hb
 cases hb
def ptrOf:Option Nat→Value
 | some g=>.pointer (some ⟨g,0,none⟩)
 | none=>.pointer none
theorem PMap.val {D:DataW Unit} (hD:∀i:Int,I64 i→has D (.int .i64 i)=(f i).isSome∧∀g,f i=some g→∀z,D.atKey (.int .i64 i) z=.lit (.int .i64 g)) {i:Int} (hi:I64 i) {v:Value} {ps:List MemPlace} (hv:RP v=some (D.atKey (.int .i64 i) (.lit (.bool false)),ps)):v=ptrOf (f i):=by
 obtain ⟨h1,h2⟩:=hD i hi
 cases q:f i with
 | none =>
  rw [q] at h1
  rw [atKey_of_not_has h1] at hv
  exact rp_none hv
 | some g =>
  rw [h2 g q] at hv
  exact rp_some hv
theorem PMap.look_ok {t:TypeId} (h:PMap P k w b n f) (hk:P.underlying k=some (.int .i64)) (ht:P.underlying t=some (.map k e)) (hz:(zeroValue e).run P w=.ok (.pointer none) w) {i:Int} (hi:I64 i) :
 (Instr.lookup t (.map (some b)) (.int .i64 i) true).run P w=.ok (.tuple #[ptrOf (f i),.bool (f i).isSome]) w:=by
 obtain ⟨D,ho,hf⟩:=h
 obtain ⟨v,ps,hrun,hv⟩:=ho.look_ok (int_keyed hk) ht hz (zd:=.lit (.bool false)) (zp:=[]) rfl (keyOf_int_mk hk (i64_wf hi))
 rw [hrun,(hf i hi).1,PMap.val hf hi hv]
theorem PMap.look {t:TypeId} (h:PMap P k w b n f) (hk:P.underlying k=some (.int .i64)) (ht:P.underlying t=some (.map k e)) (hz:(zeroValue e).run P w=.ok (.pointer none) w) {i:Int} (hi:I64 i) :
 (Instr.lookup t (.map (some b)) (.int .i64 i) false).run P w=.ok (ptrOf (f i)) w:=by
 obtain ⟨D,ho,hf⟩:=h
 obtain ⟨v,ps,hrun,hv⟩:=ho.lookup (int_keyed hk) ht hz (zd:=.lit (.bool false)) (zp:=[]) rfl (keyOf_int_mk hk (i64_wf hi))
 rw [hrun,PMap.val hf hi hv]
theorem but_of_turned {w w':World} {b:Nat} (h:w.mapTurned w' b):But b w w':=by
 obtain ⟨es,clock,es',clock',hb,rfl⟩:=h
 exact ⟨rfl,rfl,rfl,by simp [setBlock],fun i hi=>heap_setBlock_other hb _ hi⟩
theorem PMap.put {t:TypeId} (h:PMap P k w b n f) (hk:P.underlying k=some (.int .i64)) (ht:P.underlying t=some (.map k e)) (hn:n<maxLen) {i:Int} (hi:I64 i) (g:Nat) :
 ∃w',(Instr.mapUpdate t (.map (some b)) (.int .i64 i) (.pointer (some ⟨g,0,none⟩))).run P w=.ok () w'∧PMap P k w' b (n+1) (fun j=>if j=i then some g else f j)∧But b w w':=by
 obtain ⟨D,ho,hf⟩:=h
 have hm:=ho.isMap
 obtain ⟨w',hrun,ho',hg⟩:=ho.store (int_keyed hk) ht hn (keyOf_int_mk hk (i64_wf hi)) (rp_mk g)
 refine ⟨w',hrun,⟨_,ho',fun j hj=>?_⟩,but_of_turned hg⟩
 by_cases e:j=i
 ·subst e
  dsimp only
  rw [if_pos rfl]
  refine ⟨has_put_same hm (by simp [WideAt.IsKeyLit]) _,fun g' hg' z=>?_⟩
  cases hg'
  exact atKey_put_same hm (by simp [WideAt.IsKeyLit]) _ _
 ·dsimp only
  rw [if_neg e,has_put_other (by simpa using e)]
  refine ⟨(hf j hj).1,fun g' hg' z=>?_⟩
  rw [atKey_put_other (by simpa using e)]
  exact (hf j hj).2 g' hg' z
end
def MSet (P:Program) (k e:TypeId) (w:World) (b:Nat) (l:List Int):Prop :=
 l.Nodup∧∃D:DataW Unit,w.ownsMap P k (plainElem P e) b l.length D∧Maps.size D=l.length∧∀i:Int,I64 i→has D (.int .i64 i)=l.contains i∧D.atKey (.int .i64 i) (.lit (.bool false))=.lit (.bool (l.contains i))
section
variable {P:Program} {k e:TypeId} {w w':World} {b:Nat} {l:List Int}
theorem MSet.made (w:World):MSet P k e (w.alloc (.map #[] 0)) w.heap.size [] :=
 ⟨List.nodup_nil,.map [],World.ownsMap_made w P k _,rfl,fun i _=>⟨rfl,by simp [DataW.atKey]⟩⟩
theorem MSet.lt (h:MSet P k e w b l):b<w.heap.size:=by obtain ⟨_,D,h,_⟩:=h;exact h.lt
theorem MSet.same (h:MSet P k e w b l) (hk:w'.heap[b]?=w.heap[b]?):MSet P k e w' b l:=by
 obtain ⟨h0,D,⟨es,clock,hb,F,hs,hD⟩,h2⟩:=h
 exact ⟨h0,D,⟨es,clock,hk.trans hb,F,hs,hD⟩,h2⟩
theorem MSet.up (h:MSet P k e w b l) (u:Up w w'):MSet P k e w' b l:=h.same (u.block b h.lt)
theorem MSet.but {g:Nat} (h:MSet P k e w b l) (u:But g w w') (hg:b≠g):MSet P k e w' b l:=h.same (u.block b hg)
theorem MSet.look {t:TypeId} (h:MSet P k e w b l) (hk:P.underlying k=some (.int .i64)) (ht:P.underlying t=some (.map k e)) (he:P.underlying e=some .bool) (hz:(zeroValue e).run P w=.ok (.bool false) w) {i:Int} (hi:I64 i) :
 (Instr.lookup t (.map (some b)) (.int .i64 i) false).run P w=.ok (.bool (l.contains i)) w:=by
 obtain ⟨_,D,ho,_,hf⟩:=h
 obtain ⟨v,ps,hrun,hv⟩:=ho.lookup (int_keyed hk) ht hz (plainElem_bool he false) (keyOf_int_mk hk (i64_wf hi))
 obtain ⟨x,rfl,hx⟩:=plainElem_bool_inv he hv
 rw [(hf i hi).2] at hx
 simp only [Prod.mk.injEq,DataW.lit.injEq,Lit.bool.injEq] at hx
 rw [hrun,hx.1]
theorem MSet.len {t:TypeId} (h:MSet P k e w b l) (ht:P.underlying t=some (.map k e)) (ty:TypeId):(Builtin.len_ #[t] ty #[.map (some b)]).run P w=.ok (.int .i64 l.length) w:=by
 obtain ⟨_,D,ho,hs,_⟩:=h
 rw [ho.len ht,hs]
theorem MSet.add {t:TypeId} (h:MSet P k e w b l) (hk:P.underlying k=some (.int .i64)) (ht:P.underlying t=some (.map k e)) (he:P.underlying e=some .bool) (hn:l.length<maxLen) {i:Int} (hi:I64 i) (hni:l.contains i=false) :
 ∃w',(Instr.mapUpdate t (.map (some b)) (.int .i64 i) (.bool true)).run P w=.ok () w'∧MSet P k e w' b (l++[i])∧But b w w':=by
 obtain ⟨h0,D,ho,hs,hf⟩:=h
 have hm:=ho.isMap
 have hT:=ho.tidy (int_keyed hk)
 obtain ⟨w',hrun,ho',hg⟩:=ho.store (int_keyed hk) ht hn (keyOf_int_mk hk (i64_wf hi)) (plainElem_bool he true)
 refine ⟨w',hrun,⟨?_,_,by rw [List.length_append];exact ho',?_,fun j hj=>?_⟩,but_of_turned hg⟩
 ·refine List.nodup_append.2 ⟨h0,by simp,?_⟩
  rintro a ha c hc rfl
  obtain rfl:a=i:=by simpa using hc
  simp at hni
  exact hni ha
 ·rw [size_put hT,(hf i hi).1,hni,hs,List.length_append]
  rfl
 ·by_cases e:j=i
  ·subst e
   have hc:(l++[j]).contains j=true:=by simp
   rw [hc,atKey_put_same hm (by simp [WideAt.IsKeyLit])]
   exact ⟨has_put_same hm (by simp [WideAt.IsKeyLit]) _,rfl⟩
  ·have hc:(l++[i]).contains j=l.contains j:=by
    rw [Bool.eq_iff_iff]
    simp [e]
   rw [hc,has_put_other (by simpa using e),atKey_put_other (by simpa using e)]
   exact hf j hj
end
end Go.Proofs.YtojmcmghmnfjeaaGreatDoor
namespace Go.Proofs.YtojmcmghmnfjeaaGreatDoor
open Go.RowKit
set_option linter.unusedVariables false
set_option linter.unusedSimpArgs false
theorem cinfo_Int64S:(Tryz.prog.info? 2).map (fun i=>(i.zero,i.size,i.bytes))=some (some (.int .i64 0),1,8):=by kernel_rfl
theorem c_CloneInt64S (xs:List Int) (A:Option Addr) (c:Nat) (w:World) (h:SRW shI w A c xs) (hn:xs.length≤1048576) :
 Calls Tryz.prog 82 #[.slice A xs.length c] w (ToL shI xs w):=by
 obtain ⟨i0,hi0,hz0,hz1,hz2⟩:=info_parts cinfo_Int64S
 cases A with
 | none =>
  obtain rfl:xs=[]:=by
   rcases Nat.eq_zero_or_pos xs.length with h0 | hp
   ·exact List.eq_nil_of_length_eq_zero h0
   ·obtain ⟨g,off,hA,_⟩:=h.2.2 hp;cases hA
  have he:∀W:World,(binOp .eql 53 (.slice none 0 c) (.slice none 0 0)).run Tryz.prog W=.ok (.bool true) W:=fun _=>rfl
  go_enter Tryz.func82,Tryz.ntmps82
  go_wp2_with fail
  go_ret
  exact ⟨none,0,[],rfl,SO.nil _ _ _,by simp,Up.refl _⟩
 | some ad =>
  have he:∀W:World,(binOp .eql 53 (.slice (some ad) xs.length c) (.slice none 0 0)).run Tryz.prog W=.ok (.bool false) W:=fun _=>rfl
  go_enter Tryz.func82,Tryz.ntmps82
  go_wp2_with (first
   | (at_builtin
      refine wpList_app_new good_I flat_I rfl _ _ _ 2 rfl i0 _ Tryz.underlying53 hi0 hz0 hz1 (by rfl) rfl rfl (h.up good_I ((Up.refl w).alloc _)) (by rw [hz2];omega) ?_
      intro D d bl w1 hso hnd hu))
  go_ret
  exact ⟨D,d,bl,rfl,hso.wide good_I (by simp) (Nat.le_refl _),hnd,((Up.refl w).alloc _).trans hu⟩
theorem nd_snocB {a b:List Nat} {m m':Nat} (ha:a.Nodup∧∀x∈a,x<m) (hb:b.Nodup) (h1:∀x∈b,m≤x∧x<m') (hm:m≤m'):(a++b).Nodup∧∀x∈a++b,x<m':=by
 refine ⟨List.nodup_append.2 ⟨ha.1,hb,?_⟩,fun x hx=>?_⟩
 ·rintro x hx y hy rfl
  have:=ha.2 x hx
  have:=(h1 x hy).1
  omega
 ·rcases List.mem_append.1 hx with h | h
  ·exact Nat.lt_of_lt_of_le (ha.2 x h) hm
  ·exact (h1 x h).2
theorem c_copyPage (v:Value) (x:TPage) (w:World) (h:AV shPage w v x) (hn:shPage.sz x≤1048576):Calls Tryz.prog 45 #[v] w (ToV shPage x w):=by
 obtain ⟨cs,rfl,h⟩:=h
 obtain ⟨A1,c1,A2,c2,A3,c3,rfl,b1,b2,b3⟩:=openPage h
 clear h
 have e:shPage.sz x=0+((shL shS).sz x.2.1+((shL shS).sz x.2.2.1+(shL shI).sz x.2.2.2)):=rfl
 have e1:(shL shS).sz x.2.1=x.2.1.length+(x.2.1.map shS.sz).sum:=rfl
 have e2:(shL shS).sz x.2.2.1=x.2.2.1.length+(x.2.2.1.map shS.sz).sum:=rfl
 have e3:(shL shI).sz x.2.2.2=x.2.2.2.length+(x.2.2.2.map shI.sz).sum:=rfl
 have n1:x.2.1.length≤1048576:=by omega
 have n2:x.2.2.1.length≤1048576:=by omega
 have n3:x.2.2.2.length≤1048576:=by omega
 clear e e1 e2 e3 hn
 have ka:=(Bk.new w 58 #[.bool x.1,.slice A1 x.2.1.length c1,.slice A2 x.2.2.1.length c2,.slice A3 x.2.2.2.length c3]).alloc (.cells #[.bool false,.slice none 0 0,.slice none 0 0,.slice none 0 0] 58)
 have kr:Bk ((w.alloc (.cells #[.bool x.1,.slice A1 x.2.1.length c1,.slice A2 x.2.2.1.length c2,.slice A3 x.2.2.2.length c3] 58)).alloc (.cells #[.bool false,.slice none 0 0,.slice none 0 0,.slice none 0 0] 58)) (w.heap.size+1) 58 #[.bool false,.slice none 0 0,.slice none 0 0,.slice none 0 0]:=by
  simpa using Bk.new (w.alloc (.cells #[.bool x.1,.slice A1 x.2.1.length c1,.slice A2 x.2.2.1.length c2,.slice A3 x.2.2.2.length c3] 58)) 58 #[.bool false,.slice none 0 0,.slice none 0 0,.slice none 0 0]
 have uu:Up w ((w.alloc (.cells #[.bool x.1,.slice A1 x.2.1.length c1,.slice A2 x.2.2.1.length c2,.slice A3 x.2.2.2.length c3] 58)).alloc (.cells #[.bool false,.slice none 0 0,.slice none 0 0,.slice none 0 0] 58)):=((Up.refl _).alloc _).alloc _
 have zz:w.heap.size+1+1≤((w.alloc (.cells #[.bool x.1,.slice A1 x.2.1.length c1,.slice A2 x.2.2.1.length c2,.slice A3 x.2.2.2.length c3] 58)).alloc (.cells #[.bool false,.slice none 0 0,.slice none 0 0,.slice none 0 0] 58)).heap.size:=by simp
 go_enter Tryz.func45,Tryz.ntmps45
 go_wp2_with fail
 generalize ((w.alloc (.cells #[.bool x.1,.slice A1 x.2.1.length c1,.slice A2 x.2.2.1.length c2,.slice A3 x.2.2.2.length c3] 58)).alloc (.cells #[.bool false,.slice none 0 0,.slice none 0 0,.slice none 0 0] 58))=W0 at ka kr uu zz ⊢
 replace ka:=ka.drew
 replace kr:=kr.drew
 replace uu:=uu.drew
 have zd:W0.drew.heap.size=W0.heap.size:=rfl
 go_region_held3 (fun W=>W.cell? ⟨w.heap.size,0,none⟩=some (.bool x.1)∧W.cell? ⟨w.heap.size,1,none⟩=some (.slice A1 x.2.1.length c1)∧W.cell? ⟨w.heap.size,2,none⟩=some (.slice A2 x.2.2.1.length c2)∧W.cell? ⟨w.heap.size,3,none⟩=some (.slice A3 x.2.2.2.length c3))
  (first
   | (have q0:World.cell? _ ⟨w.heap.size,0,none⟩=some (.bool x.1):=ka.cell 0;have q1:World.cell? _ ⟨w.heap.size,1,none⟩=some (.slice A1 x.2.1.length c1):=ka.cell 1;have q2:World.cell? _ ⟨w.heap.size,2,none⟩=some (.slice A2 x.2.2.1.length c2):=ka.cell 2;have q3:World.cell? _ ⟨w.heap.size,3,none⟩=some (.slice A3 x.2.2.2.length c3):=ka.cell 3;with_reducible exact ⟨q0,q1,q2,q3⟩)
   | (replace ka:=((((ka.far (p:=⟨w.heap.size+1,0,none⟩) (by dsimp only;omega) (.bool x.1)).far (p:=⟨w.heap.size+1,1,none⟩) (by dsimp only;omega) (.slice D1 x.2.1.length d1)).far (p:=⟨w.heap.size+1,2,none⟩) (by dsimp only;omega) (.slice D2 x.2.2.1.length d2)).far (p:=⟨w.heap.size+1,3,none⟩) (by dsimp only;omega) (.slice D3 x.2.2.2.length d3));have q0:World.cell? _ ⟨w.heap.size,0,none⟩=some (.bool x.1):=ka.cell 0;have q1:World.cell? _ ⟨w.heap.size,1,none⟩=some (.slice A1 x.2.1.length c1):=ka.cell 1;have q2:World.cell? _ ⟨w.heap.size,2,none⟩=some (.slice A2 x.2.2.1.length c2):=ka.cell 2;have q3:World.cell? _ ⟨w.heap.size,3,none⟩=some (.slice A3 x.2.2.2.length c3):=ka.cell 3;with_reducible exact ⟨q0,q1,q2,q3⟩))
  (first
   | (go_at_call_of 81 A1;(with_reducible refine (c_CloneStringS x.2.1 A1 c1 _ (b1.up good_S uu) n1).mono ?_);rintro e w1 ⟨D1,d1,bl1,rfl,o1,nd1,u1⟩;replace ka:=ka.up u1;replace kr:=kr.up u1;replace uu:=uu.trans u1;have z1:=u1.size)
   | (go_at_call_of 81 A2;(with_reducible refine (c_CloneStringS x.2.2.1 A2 c2 _ (b2.up good_S uu) n2).mono ?_);rintro e w2 ⟨D2,d2,bl2,rfl,o2,nd2,u2⟩;replace ka:=ka.up u2;replace kr:=kr.up u2;replace uu:=uu.trans u2;have z2:=u2.size)
   | (go_at_call_of 82 A3;(with_reducible refine (c_CloneInt64S x.2.2.2 A3 c3 _ (b3.up good_I uu) n3).mono ?_);rintro e w3 ⟨D3,d3,bl3,rfl,o3,nd3,u3⟩;replace ka:=ka.up u3;replace kr:=kr.up u3;replace uu:=uu.trans u3;have z3:=u3.size;have gr0:w3.cell? ⟨w.heap.size+1,0,none⟩=some (.bool false):=kr.cell 0;have fr0:=kr.frozen 0;have gr1:w3.cell? ⟨w.heap.size+1,1,none⟩=some (.slice none 0 0):=kr.cell 1;have fr1:=kr.frozen 1;have gr2:w3.cell? ⟨w.heap.size+1,2,none⟩=some (.slice none 0 0):=kr.cell 2;have fr2:=kr.frozen 2;have gr3:w3.cell? ⟨w.heap.size+1,3,none⟩=some (.slice none 0 0):=kr.cell 3;have fr3:=kr.frozen 3))
 have bt:But (w.heap.size+1) w3 ((((w3.setCell ⟨w.heap.size+1,0,none⟩ (.bool x.1)).setCell ⟨w.heap.size+1,1,none⟩ (.slice D1 x.2.1.length d1)).setCell ⟨w.heap.size+1,2,none⟩ (.slice D2 x.2.2.1.length d2)).setCell ⟨w.heap.size+1,3,none⟩ (.slice D3 x.2.2.2.length d3)):=But.sets (g:=w.heap.size+1) [.bool x.1,.slice D1 x.2.1.length d1,.slice D2 x.2.2.1.length d2,.slice D3 x.2.2.2.length d3] w3 0
 have krE:Bk ((((w3.setCell ⟨w.heap.size+1,0,none⟩ (.bool x.1)).setCell ⟨w.heap.size+1,1,none⟩ (.slice D1 x.2.1.length d1)).setCell ⟨w.heap.size+1,2,none⟩ (.slice D2 x.2.2.1.length d2)).setCell ⟨w.heap.size+1,3,none⟩ (.slice D3 x.2.2.2.length d3)) (w.heap.size+1) 58 #[.bool x.1,.slice D1 x.2.1.length d1,.slice D2 x.2.2.1.length d2,.slice D3 x.2.2.2.length d3]:=kr.setsL [.bool x.1,.slice D1 x.2.1.length d1,.slice D2 x.2.2.1.length d2,.slice D3 x.2.2.2.length d3] 0
 generalize ((((w3.setCell ⟨w.heap.size+1,0,none⟩ (.bool x.1)).setCell ⟨w.heap.size+1,1,none⟩ (.slice D1 x.2.1.length d1)).setCell ⟨w.heap.size+1,2,none⟩ (.slice D2 x.2.2.1.length d2)).setCell ⟨w.heap.size+1,3,none⟩ (.slice D3 x.2.2.2.length d3))=W4 at bt krE ⊢
 clear gr0 fr0 gr1 fr1 gr2 fr2 gr3 fr3
 go_wp2_with fail
 refine bodyPost_ret (results_bk krE _ _ Tryz.results45 rfl Tryz.underlying58 rfl (by kernel_rfl)) rfl ?_
 have m1:bl1.Nodup∧∀b∈bl1,b<w1.heap.size:=⟨nd1,fun b hb=>(o1.in_ good_S b hb).2⟩
 have m2:=nd_snocB m1 nd2 (o2.in_ good_S) z2
 have m3:=nd_snocB m2 nd3 (o3.in_ good_I) z3
 have p1:=(((o1.up good_S u2).up good_S u3).but good_S bt (by omega)).wide good_S (lo':=w.heap.size) (by omega) (Nat.le_refl _)
 have p2:=((o2.up good_S u3).but good_S bt (by omega)).wide good_S (lo':=w.heap.size) (by omega) (Nat.le_refl _)
 have p3:=(o3.but good_I bt (by omega)).wide good_I (lo':=w.heap.size) (by omega) (Nat.le_refl _)
 exact ⟨_,_,rfl,asmPage (x0:=x.1) p1 p2 p3,m3.1,uu.but bt (by omega)⟩
def PagesR (w:World) (lo hi tb:Nat) (x:TBtree):Prop :=
 ∃ pb n f,Bk w tb 89 #[.int .i64 x.1,.map (some pb)]∧PMap Tryz.prog 2 w pb n f∧n≤x.2.length∧lo≤tb∧tb<hi∧lo≤pb∧pb<hi ∧
  ∀id,(pgAt x id=none→f id=none)∧∀p,pgAt x id=some p→∃g cs,f id=some g∧pb<g∧g<hi∧Bk w g 58 cs.toArray∧shPage.rep w (pb+1) hi cs p
theorem pgAt_take {x:TBtree} (hs:SlotsP x.2) {k:Nat} (hk:k<x.2.length) (id:Int):pgAt (x.1,x.2.take (k+1)) id=if id=x.2[k].1 then some x.2[k].2 else pgAt (x.1,x.2.take k) id:=by
 unfold pgAt
 dsimp only
 rw [List.take_succ_eq_append_getElem hk,List.find?_append]
 by_cases e:id=x.2[k].1
 ·rw [if_pos e]
  have e1:(x.2.take k).find? (fun s=>s.1==id)=none:=by
   refine List.find?_eq_none.2 (fun s hs'=>?_)
   obtain ⟨j,hj,rfl⟩:=List.getElem_of_mem hs'
   rw [List.length_take] at hj
   have:=slots_lt hs j k hk (by omega)
   rw [List.getElem_take]
   simp
   omega
  rw [e1]
  simp [e]
 ·rw [if_neg e]
  have e1:[x.2[k]].find? (fun s=>s.1==id)=none:=by
   refine List.find?_eq_none.2 (fun s hs'=>?_)
   obtain rfl:s=x.2[k]:=by simpa using hs'
   simp
   omega
  rw [e1,Option.or_none]
theorem PagesR.up {w w':World} {lo hi tb:Nat} {x:TBtree} (h:PagesR w lo hi tb x) (u:Up w w') (hhi:hi≤w.heap.size):PagesR w' lo hi tb x:=by
 obtain ⟨pb,n,f,h1,h2,h3,h4,h5,h6,h7,h8⟩:=h
 refine ⟨pb,n,f,h1.up u,h2.up u,h3,h4,h5,h6,h7,fun id=>⟨(h8 id).1,fun p hp=>?_⟩⟩
 obtain ⟨g,cs,q1,q2,q3,q4,q5⟩:=(h8 id).2 p hp
 exact ⟨g,cs,q1,q2,q3,q4.up u,good_Page.keep q5 (u.keeps hhi)⟩
theorem PagesR.but {w w':World} {lo hi tb g:Nat} {x:TBtree} (h:PagesR w lo hi tb x) (u:But g w w') (hg:hi≤g):PagesR w' lo hi tb x:=by
 obtain ⟨pb,n,f,h1,h2,h3,h4,h5,h6,h7,h8⟩:=h
 refine ⟨pb,n,f,h1.butM u (by omega),h2.but u (by omega),h3,h4,h5,h6,h7,fun id=>⟨(h8 id).1,fun p hp=>?_⟩⟩
 obtain ⟨g',cs,q1,q2,q3,q4,q5⟩:=(h8 id).2 p hp
 exact ⟨g',cs,q1,q2,q3,q4.butM u (by omega),good_Page.keep q5 (fun y h1 h2=>u.block y (by omega))⟩
theorem c_pagesOf (v:Value) (y:TBtree) (w:World) (h:AV shBtree w v y) (hs:SlotsP y.2) (hn:shBtree.sz y≤1048576) :
 Calls Tryz.prog 19 #[v] w (fun e w'=>∃tb,e=.returned (.pointer (some ⟨tb,0,none⟩))∧PagesR w' w.heap.size w'.heap.size tb y∧Up w w'):=by
 obtain ⟨cs,rfl,h⟩:=h
 obtain ⟨r,x⟩:=y
 have ho:=openBtree h
 dsimp only at ho
 obtain ⟨A0,c0,rfl,br,b00⟩:=ho
 clear h
 have hlen:=b00.len_le
 have hl64:=slots_len hs
 dsimp only at hs hl64
 have hnx:(shL shSlot).sz x≤1048576:=by
  have e:shBtree.sz (r,x)=0+(shL shSlot).sz x:=rfl
  omega
 have HSZ:=Hd (fun (i:Nat) (hi:i<x.length)=>slot_sz (sz_le shSlot x hi hnx))
 have HI:=Hd (fun (i:Nat) (hi:i<x.length)=>inB_t.1 (hs i hi).1)
 have HT:=Hd (fun (k:Nat) (hk:k<x.length) (id:Int)=>pgAt_take (x:=(r,x)) hs hk id)
 have HL:=Hd hl64
 clear hn hnx hs hl64
 have hmm:=@run_makeMap Tryz.prog
 go_enter Tryz.func19,Tryz.ntmps19
 go_wp2_with fail
 clear hmm
 have kt:Bk (((w.alloc (.cells #[.int .i64 r,.slice A0 x.length c0] 28)).alloc (.map #[] 0)).alloc (.cells #[.int .i64 r,.map (some (w.heap.size+1))] 89)) (w.heap.size+1+1) 89 #[.int .i64 r,.map (some (w.heap.size+1))]:=by
  simpa using Bk.new ((w.alloc (.cells #[.int .i64 r,.slice A0 x.length c0] 28)).alloc (.map #[] 0)) 89 #[.int .i64 r,.map (some (w.heap.size+1))]
 have km:PMap Tryz.prog 2 (((w.alloc (.cells #[.int .i64 r,.slice A0 x.length c0] 28)).alloc (.map #[] 0)).alloc (.cells #[.int .i64 r,.map (some (w.heap.size+1))] 89)) (w.heap.size+1) 0 (fun _=>none):=by
  have h:=(PMap.made (P:=Tryz.prog) (k:=2) (w.alloc (.cells #[.int .i64 r,.slice A0 x.length c0] 28))).up ((Up.refl _).alloc (.cells #[.int .i64 r,.map (some (w.heap.size+1))] 89))
  simpa using h
 have uu:Up w (((w.alloc (.cells #[.int .i64 r,.slice A0 x.length c0] 28)).alloc (.map #[] 0)).alloc (.cells #[.int .i64 r,.map (some (w.heap.size+1))] 89)):=(((Up.refl _).alloc _).alloc _).alloc _
 have zz:w.heap.size+1+1+1≤(((w.alloc (.cells #[.int .i64 r,.slice A0 x.length c0] 28)).alloc (.map #[] 0)).alloc (.cells #[.int .i64 r,.map (some (w.heap.size+1))] 89)).heap.size:=by simp
 go_loopw [15] (fun i wr=>∃k:Nat,k≤x.length∧i=.int .i64 k∧Hid (PagesR wr w.heap.size wr.heap.size (w.heap.size+1+1) (r,x.take k))∧Up w wr) (fun i _=>x.length-(intOf i).toNat)
 case atStart =>
  exact ⟨0,Nat.zero_le _,rfl,Hd ⟨w.heap.size+1,0,fun _=>none,kt,km,Nat.zero_le _,by omega,by omega,by omega,by omega,fun id=>⟨fun _=>rfl,fun p hp=>by simp [pgAt] at hp⟩⟩,uu⟩
 case round =>
  obtain ⟨k,hk,rfl,HP,hu⟩:=hrel
  clear kt km uu zz
  by_cases hlt:k<x.length
  ·obtain ⟨g,off,A2,c2,A3,c3,A4,c4,hA,_,hgl,hc0,hc1,hc2,hc3,hc4,b0,b2,b3,b4,_⟩:=atSlot (b00.up good_Slot hu) hlt
   have pv:∀W,Up wr W→AV shPage W (.agg #[.bool x[k].2.1,.slice A2 x[k].2.2.1.length c2,.slice A3 x[k].2.2.2.1.length c3,.slice A4 x[k].2.2.2.2.length c4]) x[k].2:=fun W hW=>⟨_,rfl,mkPage (x:=x[k].2) (b2.up good_S hW) (b3.up good_S hW) (b4.up good_I hW)⟩
   have cp:=fun W (hW:Up wr W)=>c_copyPage (.agg #[.bool x[k].2.1,.slice A2 x[k].2.2.1.length c2,.slice A3 x[k].2.2.2.1.length c3,.slice A4 x[k].2.2.2.2.length c4]) x[k].2 W (pv W hW) (HSZ.out k hlt)
   have kb:=Bk.new wr 60 #[.int .i64 x[k].1,.bool x[k].2.1,.slice A2 x[k].2.2.1.length c2,.slice A3 x[k].2.2.2.1.length c3,.slice A4 x[k].2.2.2.2.length c4]
   have uA:Up wr (wr.alloc (.cells #[.int .i64 x[k].1,.bool x[k].2.1,.slice A2 x[k].2.2.1.length c2,.slice A3 x[k].2.2.2.1.length c3,.slice A4 x[k].2.2.2.2.length c4] 60)):=(Up.refl wr).alloc _
   have CP:=Hd (cp _ uA)
   clear cp pv
   subst hA
   obtain ⟨hid1,hid2⟩:=HI.out k hlt
   go_wp2_with fail
   refine CP.out.mono ?_
   rintro e w1 ⟨cs,bl,rfl,so,nd,u1⟩
   have so':=so
   obtain ⟨D1,d1,bl1,D2,d2,bl2,D3,d3,bl3,rfl,rfl,_,_,_⟩:=openOPage so
   go_wp2_with fail
   obtain ⟨pb,n,f,p1,p2,p3,p4,p5,p6,p7,p8⟩:=HP.out
   have uB:Up w1 (w1.alloc (.cells #[.bool x[k].2.1,.slice D1 x[k].2.2.1.length d1,.slice D2 x[k].2.2.2.1.length d2,.slice D3 x[k].2.2.2.2.length d3] 58)):=(Up.refl _).alloc _
   have kq:=Bk.new w1 58 #[.bool x[k].2.1,.slice D1 x[k].2.2.1.length d1,.slice D2 x[k].2.2.2.1.length d2,.slice D3 x[k].2.2.2.2.length d3]
   have kb2:=(kb.up u1).up uB
   have uW:=(uA.trans u1).trans uB
   have p1':=p1.up uW
   have p2':=p2.up uW
   have zA:(wr.alloc (.cells #[.int .i64 x[k].1,.bool x[k].2.1,.slice A2 x[k].2.2.1.length c2,.slice A3 x[k].2.2.2.1.length c3,.slice A4 x[k].2.2.2.2.length c4] 60)).heap.size=wr.heap.size+1:=by simp
   have z1:=u1.size
   have zB:(w1.alloc (.cells #[.bool x[k].2.1,.slice D1 x[k].2.2.1.length d1,.slice D2 x[k].2.2.2.1.length d2,.slice D3 x[k].2.2.2.2.length d3] 58)).heap.size=w1.heap.size+1:=by simp
   have zu:=hu.size
   generalize (w1.alloc (.cells #[.bool x[k].2.1,.slice D1 x[k].2.2.1.length d1,.slice D2 x[k].2.2.2.1.length d2,.slice D3 x[k].2.2.2.2.length d3] 58))=W2 at kq kb2 uB uW p1' p2' zB ⊢
   have hk64:=HL.out
   have hn:n<maxLen:=by
    have:n≤k:=by rw [List.length_take] at p3;omega
    unfold maxLen
    omega
   obtain ⟨W3,hrun,p2n,bt⟩:=p2'.drew.put (t:=87) (e:=90) Tryz.underlying2 Tryz.underlying87 hn (i:=x[k].1) ⟨by omega,by omega⟩ w1.heap.size
   have p1d:=p1'.drew
   have hne:=p2'.ne p1'
   have kbd:=kb2.drew
   go_region_held3 (fun W=>W.cell? ⟨w.heap.size+1+1,1,none⟩=some (.map (some pb))∧W.cell? ⟨wr.heap.size,0,none⟩=some (.int .i64 x[k].1))
    (first | (have q1:World.cell? _ ⟨w.heap.size+1+1,1,none⟩=some (.map (some pb)):=p1d.cell 1;have q2:World.cell? _ ⟨wr.heap.size,0,none⟩=some (.int .i64 x[k].1):=kbd.cell 0;with_reducible exact ⟨q1,q2⟩) | (have q1:World.cell? _ ⟨w.heap.size+1+1,1,none⟩=some (.map (some pb)):=(p1d.butM bt (by omega)).cell 1;have q2:World.cell? _ ⟨wr.heap.size,0,none⟩=some (.int .i64 x[k].1):=(kbd.butM bt (by omega)).cell 0;with_reducible exact ⟨q1,q2⟩))
    (first | fail)
   have z3:=bt.size
   have zd:W2.drew.heap.size=W2.heap.size:=rfl
   have uF:=(hu.trans uW).drew
   go_wp2_with fail
   go_roundw
   case rel =>
    refine ⟨k+1,by omega,by go_num,Hd ⟨pb,n+1,_,p1d.butM bt hne,p2n,?_,p4,by omega,p6,by omega,fun id=>?_⟩,uF.but bt p6⟩
    ·rw [List.length_take] at p3 ⊢
     omega
    ·rw [HT.out k hlt id]
     by_cases e:id=x[k].1
     ·refine ⟨fun hh=>(by rw [if_pos e] at hh;cases hh),fun p hp=>?_⟩
      rw [if_pos e] at hp
      cases hp
      refine ⟨w1.heap.size,_,if_pos e,by omega,by omega,kq.drew.butM bt (by omega),?_⟩
      have o1:=good_Page.own_rep so'
      have o2:=good_Page.keep o1 (uB.keeps (Nat.le_refl _))
      exact good_Page.wide (good_Page.keep o2 (fun y h1 h2=>bt.block y (by omega))) (by omega) (by omega)
     ·refine ⟨fun hh=>(if_neg e).trans ((p8 id).1 (by rw [if_neg e] at hh;exact hh)),fun p hp=>?_⟩
      rw [if_neg e] at hp
      obtain ⟨g',cs,q1,q2,q3,q4,q5⟩:=(p8 id).2 p hp
      have o2:=good_Page.keep q5 (uW.keeps (Nat.le_refl _))
      exact ⟨g',cs,(if_neg e).trans q1,q2,by omega,(q4.up uW).drew.butM bt (p2'.ne (q4.up uW)),good_Page.wide (good_Page.keep o2 (fun y h1 h2=>bt.block y (by omega))) (Nat.le_refl _) (by omega)⟩
   case measure=>simp [intOf];omega
  ·obtain rfl:k=x.length:=by omega
   rw [List.take_length] at HP
   go_wp2_with fail
   refine bodyPost_ret (v:=.pointer (some ⟨w.heap.size+1+1,0,none⟩)) (by simp [results,Tryz.results19,go_sem]) rfl ?_
   exact ⟨w.heap.size+1+1,rfl,HP.out,hu⟩
theorem cinfo_SlotO:(Tryz.prog.info? 60).map (fun i=>(i.zero,i.size,i.bytes))=some (some (.agg #[.int .i64 0,.bool false,.slice none 0 0,.slice none 0 0,.slice none 0 0]),5,88):=by kernel_rfl
theorem slot_szs {x:List TSlot} (hnx:(shL shSlot).sz x≤1048576) (i:Nat) (hi:i<x.length):shPage.sz x[i].2≤1048576:=slot_sz (sz_le shSlot x hi hnx)
end Go.Proofs.YtojmcmghmnfjeaaGreatDoor
