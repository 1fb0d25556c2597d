/-
 Parts of the proof.
-/
import Derived.Test.YtojmcmghmnfjeaaGreatDoorM1Yn
namespace Go.Proofs.YtojmcmghmnfjeaaGreatDoor
open Go.RowKit
set_option linter.unusedVariables false
set_option linter.unusedSimpArgs false
structure One1 {α:Type} (s:Sh α) (v:α→Value) (ok:α→Prop):Prop where
 size:s.size=1
 opn:∀{w:World} {lo hi:Nat} {cs:List Value} {x:α} {bl:List Nat},s.own w lo hi cs x bl→cs=[v x]∧ok x∧bl=[]
 make:∀{w:World} {lo hi:Nat} {x:α},ok x→s.own w lo hi [v x] x []
 cell:∀x,(v x).oneCell'=true
theorem one1_S:One1 shS Value.string (fun x=>x.size≤maxLen):=⟨rfl,fun h=>⟨h.1.1,h.1.2,h.2⟩,fun h=>⟨⟨rfl,h⟩,rfl⟩,fun _=>rfl⟩
theorem one1_I:One1 shI (Value.int .i64) I64:=⟨rfl,fun h=>⟨h.1.1,h.1.2,h.2⟩,fun h=>⟨⟨rfl,h⟩,rfl⟩,fun _=>rfl⟩
structure Row1 {α:Type} (v:α→Value) (ok:α→Prop) (w:World) (lo hi g off c:Nat) (xs:List α):Prop where
 lo:lo≤g
 hi:g<hi
 blk:∃(C:Array Value) (tid:TypeId),Bk w g tid C∧off+c≤C.size∧∀i (h:i<xs.length),C[off+i]?=some (v xs[i])
 len:xs.length≤c
 cap:c≤maxLen
 ok:∀x∈xs,ok x
section
variable {α:Type} {s:Sh α} {v:α→Value} {ok:α→Prop} {w:World} {lo hi:Nat} {A:Option Addr} {c:Nat} {xs:List α} {bl:List Nat}
theorem SO.open1 (h1:One1 s v ok) (h:SO s w lo hi A c xs bl):(xs=[]∧bl=[]∧c=0)∨∃g off,A=some ⟨g,off,none⟩∧bl=[g]∧Row1 v ok w lo hi g off c xs:=by
 rcases h.2.2 with h0 | ⟨g,off,C,tid,bls,hA,hl,hh,hb,hcap,rfl,hbl,h3⟩
 ·exact .inl h0
 ·have hf:bls.flatten=[]:=by
   refine List.flatten_eq_nil_iff.2 fun b hb'=>?_
   obtain ⟨i,hi,rfl⟩:=List.getElem_of_mem hb'
   obtain ⟨cs,b',e1,_,_,e4⟩:=h3 i (by omega)
   rw [List.getElem?_eq_getElem hi] at e1
   injection e1 with e1
   rw [e1]
   exact (h1.opn e4).2.2
  refine .inr ⟨g,off,hA,by rw [hf],hl,hh,⟨C,tid,hb,by rw [h1.size] at hcap;omega,fun i hi=>?_⟩,h.1,h.2.1,fun x hx=>?_⟩
  ·obtain ⟨cs,b',e1,e2,e3,e4⟩:=h3 i hi
   obtain ⟨rfl,_,_⟩:=h1.opn e4
   have:=e3 0 (by rw [h1.size];decide)
   rw [h1.size] at this
   simpa using this
  ·obtain ⟨i,hi,rfl⟩:=List.getElem_of_mem hx
   obtain ⟨cs,b',e1,e2,e3,e4⟩:=h3 i hi
   exact (h1.opn e4).2.1
theorem Row1.so (h1:One1 s v ok) {g off:Nat} (h:Row1 v ok w lo hi g off c xs):SO s w lo hi (some ⟨g,off,none⟩) c xs [g]:=by
 obtain ⟨hl,hh,⟨C,tid,hb,hcap,hx⟩,hlen,hc,hok⟩:=h
 refine ⟨hlen,hc,.inr ⟨g,off,C,tid,List.replicate xs.length [],rfl,hl,hh,hb,by rw [h1.size];omega,by simp,by simp,fun i hi=>?_⟩⟩
 refine ⟨[v xs[i]],[],by simp [hi],by rw [h1.size];rfl,fun j hj=>?_,h1.make (hok _ (List.getElem_mem hi))⟩
 rw [h1.size] at hj ⊢
 obtain rfl:j=0:=by omega
 simpa using hx i hi
theorem SO.take1 (h1:One1 s v ok) (h:SO s w lo hi A c xs bl) (k:Nat):SO s w lo hi A c (xs.take k) bl:=by
 rcases h.open1 h1 with ⟨rfl,rfl,rfl⟩ | ⟨g,off,rfl,rfl,r⟩
 ·simpa using h
 ·obtain ⟨C,tid,hb,hcap,hx⟩:=r.blk
  refine Row1.so h1 ⟨r.lo,r.hi,⟨C,tid,hb,hcap,fun i hi=>?_⟩,by have:=r.len;rw [List.length_take];omega,r.cap,fun x hx=>r.ok x (List.mem_of_mem_take hx)⟩
  rw [List.length_take] at hi
  rw [hx i (by omega)]
  simp
theorem SO.at1 (h1:One1 s v ok) {g off:Nat} (h:SO s w lo hi (some ⟨g,off,none⟩) c xs bl) (hp:0<xs.length):bl=[g]∧Row1 v ok w lo hi g off c xs:=by
 rcases h.open1 h1 with ⟨rfl,_,_⟩ | ⟨g',off',e,rfl,r⟩
 ·simp at hp
 ·injection e with e
  injection e with e1 e2
  subst e1 e2
  exact ⟨rfl,r⟩
theorem SO.addr1 (h1:One1 s v ok) (h:SO s w lo hi A c xs bl) (hp:0<xs.length):∃g off,A=some ⟨g,off,none⟩∧bl=[g]∧Row1 v ok w lo hi g off c xs:=by
 rcases h.open1 h1 with ⟨rfl,_,_⟩ | h
 ·simp at hp
 ·exact h
theorem SO.drop1 (h1:One1 s v ok) {g off:Nat} (h:SO s w lo hi (some ⟨g,off,none⟩) c xs bl) (hp:0<xs.length):SO s w lo hi (some ⟨g,off+1,none⟩) (c-1) (xs.drop 1) bl:=by
 obtain ⟨rfl,r⟩:=h.at1 h1 hp
 obtain ⟨C,tid,hb,hcap,hx⟩:=r.blk
 have hl:=r.len
 have hc:=r.cap
 refine Row1.so h1 ⟨r.lo,r.hi,⟨C,tid,hb,by omega,fun i hi=>?_⟩,by rw [List.length_drop];omega,by omega,fun x hx=>r.ok x (List.mem_of_mem_drop hx)⟩
 rw [List.length_drop] at hi
 have:=hx (1+i) (by omega)
 rw [←Nat.add_assoc] at this
 rw [this]
 simp only [List.getElem_drop]
theorem Row1.cell {g off:Nat} (r:Row1 v ok w lo hi g off c xs) {k:Nat} (hk:k<xs.length):w.cell? ⟨g,off+k,none⟩=some (v xs[k])∧w.frozen? ⟨g,off+k,none⟩=false:=by
 obtain ⟨C,tid,hb,hcap,hx⟩:=r.blk
 exact ⟨(hb.cell _).trans (hx k hk),hb.frozen _⟩
theorem SO.set1 (h1:One1 s v ok) {g off:Nat} (h:SO s w lo w.heap.size (some ⟨g,off,none⟩) c xs bl) {k:Nat} (hk:k<xs.length) {y:α} (hy:ok y) :
 SO s (w.setCell ⟨g,off+k,none⟩ (v y)) lo (w.setCell ⟨g,off+k,none⟩ (v y)).heap.size (some ⟨g,off,none⟩) c (xs.set k y) bl∧Only bl w (w.setCell ⟨g,off+k,none⟩ (v y)):=by
 obtain ⟨rfl,r⟩:=h.at1 h1 (by omega)
 obtain ⟨C,tid,hb,hcap,hx⟩:=r.blk
 have hl:=r.len
 have bt:=But.set w g (off+k) (v y)
 refine ⟨Row1.so h1 ⟨r.lo,by rw [bt.size];exact r.hi,⟨_,tid,hb.set (off+k) (v y),by simpa using hcap,fun i hi=>?_⟩,by simpa using hl,r.cap,fun x hx=>?_⟩,(Only.refl _ _).but bt (by simp)⟩
 ·have hi':i<xs.length:=by simpa using hi
  by_cases e:i=k
  ·subst e
   rw [set_same rfl (hx i hi')]
   simp
  ·rw [set_ne (by omega),hx i hi',List.getElem_set_ne (by omega)]
 ·rcases List.mem_or_eq_of_mem_set hx with hx | rfl
  ·exact r.ok x hx
  ·exact hy
end
def RowC {α:Type} (s:Sh α) (w:World) (lo:Nat) (xs:List α) (bl:List Nat) (e:Ending) (w':World):Prop :=
 ∃D d bl',e=.returned (.slice D xs.length d)∧SO s w' lo w'.heap.size D d xs bl'∧bl'.Nodup∧(∀y∈bl',y∈bl∨w.heap.size≤y)∧Only bl w w'
end Go.Proofs.YtojmcmghmnfjeaaGreatDoor
namespace Go.Proofs.YtojmcmghmnfjeaaGreatDoor
open Go Go.RowKit
set_option linter.unusedVariables false
section
variable {P:Program} {md:Region.Mode} {ops:Array Oper} {Q:Exit→Act→World→Prop} {S:World→Prop} {m:Nat}
def InvR (md:Region.Mode) (ops:Array Oper) (listed:Array Bool):Prop:=∀k o,ops[k]?=some o→listed.getD k false=true→∀e∈o.after,Region.binds md e=true→listed.getD e.on false=true
theorem getD_two {l:Array Bool} {i:Nat} (h:l.getD i false=true) (h':l.getD i true=false):False:=by
 rcases Nat.lt_or_ge i l.size with q | q
 ·simp [q] at h h'
  rw [h] at h'
  cases h'
 ·simp [Array.getElem?_eq_none q] at h
theorem InvR.start (n:Nat):InvR md ops (Array.replicate n false):=fun k o _ h=>by
 rcases Nat.lt_or_ge k n with q | q
 ·simp [q] at h
 ·simp [q] at h
theorem InvR.set {listed:Array Bool} (h:InvR md ops listed) {i:Nat} (hi:i∈Region.ready md ops listed):InvR md ops (listed.setIfInBounds i true):=fun k o hk hl e he hb=>by
 by_cases hki:k=i
 ·subst hki
  obtain ⟨_,o',ho',hall⟩:=mem_ready.1 hi
  rw [hk] at ho'
  cases ho'
  exact getD_set_true (hall e he hb)
 ·rw [getD_set_ne false (Ne.symm hki)] at hl
  exact getD_set_true (h k o hk hl e he hb)
def edgesR (md:Region.Mode) (ops:Array Oper) (k:Nat):List Nat:=match ops[k]? with
 | some o=>(o.after.toList.filter (fun e=>Region.binds md e)).map (fun e=>e.on)
 | none=>[]
theorem edgesR_mem {k x:Nat} (h:x∈edgesR md ops k):∃o e,ops[k]?=some o∧e∈o.after∧Region.binds md e=true∧e.on=x:=by
 unfold edgesR at h
 cases ho:ops[k]? with
 | none=>rw [ho] at h;simp at h
 | some o =>
  rw [ho] at h
  obtain ⟨e,he,rfl⟩:=List.mem_map.1 h
  obtain ⟨h1,h2⟩:=List.mem_filter.1 he
  exact ⟨o,e,rfl,by simpa using h1,h2,rfl⟩
def marksR (md:Region.Mode) (ops:Array Oper) (j:Nat):List Nat:=(List.range (j+1)).reverse.foldl (fun L k=>if L.contains k then edgesR md ops k++L else L) (edgesR md ops j)
theorem marks_fold (C:Nat→Prop) (hC:∀k,C k→∀x∈edgesR md ops k,C x):∀(l L:List Nat),(∀x∈L,C x)→∀x∈l.foldl (fun L k=>if L.contains k then edgesR md ops k++L else L) L,C x
 | [],L,h=>h
 | k::l,L,h=>by
  rw [List.foldl_cons]
  refine marks_fold C hC l _ ?_
  split
  ·rename_i hk
   intro x hx
   rcases List.mem_append.1 hx with hx | hx
   ·exact hC k (h k (by simpa using hk)) x hx
   ·exact h x hx
  ·exact h
def lateR (md:Region.Mode) (ops:Array Oper) (m i:Nat):Bool:=(List.range ops.size).all fun j=>decide (j<m)||(marksR md ops j).contains i
theorem lateR_spec {i:Nat} (h:lateR md ops m i=true) {listed:Array Bool} (hI:InvR md ops listed) (hi:listed.getD i true=false):∀j∈Region.ready md ops listed,j<m:=fun j hj=>by
 obtain ⟨hju,o,ho,hall⟩:=mem_ready.1 hj
 have hjs:j<ops.size:=(Array.getElem?_eq_some_iff.1 ho).1
 have h1:=List.all_eq_true.1 h j (List.mem_range.2 hjs)
 by_cases hm:j<m
 ·exact hm
 ·rw [decide_eq_false hm,Bool.false_or] at h1
  have hmem:i∈marksR md ops j:=by simpa using h1
  have key:=marks_fold (md:=md) (ops:=ops) (fun k=>listed.getD k false=true) (fun k hk x hx=>by
   obtain ⟨o',e,ho',he,hb,rfl⟩:=edgesR_mem hx
   exact hI k o' ho' hk e he hb) _ _ (fun x hx=>by
   obtain ⟨o',e,ho',he,hb,rfl⟩:=edgesR_mem hx
   rw [ho] at ho'
   cases ho'
   exact hall e he hb) i hmem
  exact (getD_two key hi).elim
def wpAnyU (P:Program) (md:Region.Mode) (ops:Array Oper) (Q:Exit→Act→World→Prop) (S:World→Prop) (m:Nat):Nat→Array Bool→Act→World→Prop
 | 0,listed,a,w=>InvR md ops listed→Region.ready md ops listed=[]∧Q .normal a w
 | fuel+1,listed,a,w=>InvR md ops listed →
  (Region.ready md ops listed=[]→Q .normal a w) ∧
  ∀ i∈Region.ready md ops listed,if i<m then wpOp P ops Q i (fun a' w'=>S w'∧wpAnyU P md ops Q S m fuel (listed.setIfInBounds i true) a' w') a w
   else wpOp P ops Q i (wpAny P md ops Q fuel (listed.setIfInBounds i true)) a w
theorem wpAny_of_U:∀(fuel:Nat) (listed:Array Bool) (a:Act) (w:World),InvR md ops listed→wpAnyU P md ops Q S m fuel listed a w→wpAny P md ops Q fuel listed a w
 | 0,_,_,_,hI,h=>h hI
 | fuel+1,listed,a,w,hI,h=>⟨(h hI).1,fun i hi=>by
  have h2:=(h hI).2 i hi
  split at h2
  ·exact wpOp_mono (fun a' w' h'=>wpAny_of_U fuel _ a' w' (hI.set hi) h'.2) h2
  ·exact h2⟩
theorem wpAnyU_first {i:Nat} {oi:Oper} {v:Value} (hi:ops[i]?=some oi) (hsel:∀(j:Nat) (o:Oper) cs b,ops[j]?=some o→o.op≠.select cs b)
 (hQ:∀c a w,Q (.panic c) (a.put oi.dst v) w→Q (.panic c) a w) (hl:lateR md ops m i=true) :
 ∀ (fuel:Nat) (listed:Array Bool) (a:Act) (w:World),
  (∀j oj,ops[j]?=some oj→j≠i→listed.getD j true=false→(∀e∈oj.after,Region.binds md e=true→e.on≠i)→oi.apart ops oj=true) →
  i∈Region.ready md ops listed→YieldsIf P ops S oi v a→S w →
  wpAnyU P md ops Q S m fuel (listed.setIfInBounds i true) (a.put oi.dst v) w→wpAnyU P md ops Q S m (fuel+1) listed a w:=by
 intro fuel
 induction fuel with
 | zero =>
  intro listed a w _ hr hy hS H hI
  refine ⟨fun h=>(by rw [h] at hr;cases hr),fun j hj=>?_⟩
  rw [if_pos (lateR_spec hl hI (mem_ready.1 hr).1 j hj)]
  by_cases hji:j=i
  ·subst hji;exact hy.wpOp hi hS ⟨hS,H⟩
  ·have:=ready_mono hj hji
   rw [(H (hI.set hr)).1] at this
   cases this
 | succ fuel ih =>
  intro listed a w hfree hr hy hS H hI
  refine ⟨fun h=>(by rw [h] at hr;cases hr),fun j hj=>?_⟩
  have hjm:=lateR_spec hl hI (mem_ready.1 hr).1 j hj
  rw [if_pos hjm]
  by_cases hji:j=i
  ·subst hji;exact hy.wpOp hi hS ⟨hS,H⟩
  ·have h1:=(H (hI.set hr)).2 j (ready_mono hj hji)
   rw [if_pos hjm] at h1
   obtain ⟨hjun,oj,hoj,hall⟩:=mem_ready.1 hj
   have hnot:∀e∈oj.after,Region.binds md e=true→e.on≠i:=fun e he hb heq=>by
    have h1:=hall e he hb
    have h0:=(mem_ready.1 hr).1
    rw [heq] at h1
    exact getD_two h1 h0
   have h2:=wpOp_putIf hoj (hfree j oj hoj hji hjun hnot) (fun cs b=>hsel i oi cs b hi) (fun cs b=>hsel j oj cs b hoj) hQ hy h1
   have hfree':∀k ok,ops[k]?=some ok→k≠i→(listed.setIfInBounds j true).getD k true=false →
    (∀e∈ok.after,Region.binds md e=true→e.on≠i)→oi.apart ops ok=true:=fun k ok hk hki hun hno=>by
    refine hfree k ok hk hki ?_ hno
    by_cases hjk:j=k
    ·subst hjk;exact hjun
    ·rw [getD_set_ne true hjk] at hun;exact hun
   refine wpOp_mono (fun a' w' h3=>⟨h3.2.1,ih (listed.setIfInBounds j true) a' w' hfree' (ready_mono hr (Ne.symm hji)) h3.1 h3.2.1 ?_⟩) h2
   rw [Array.setIfInBounds_comm _ _ hji]
   exact h3.2.2
theorem wpAnyU_take {i:Nat} {oi:Oper} {v:Value} {fuel:Nat} {listed:Array Bool} {a:Act} {w:World} (hi:ops[i]?=some oi)
 (hs:Region.noSelect ops=true) (hf:Region.free md ops listed i=true) (hr:(Region.ready md ops listed).contains i=true) (hl:lateR md ops m i=true)
 (hQ:∀c a w,Q (.panic c) (a.put oi.dst v) w→Q (.panic c) a w) (hy:YieldsIf P ops S oi v a) (hS:S w)
 (h:wpAnyU P md ops Q S m fuel (listed.setIfInBounds i true) (a.put oi.dst v) w):wpAnyU P md ops Q S m (fuel+1) listed a w :=
 wpAnyU_first hi (Region.noSelect_spec hs) hQ hl fuel listed a w (Region.free_spec hi hf) (by simpa using hr) hy hS h
theorem wpAnyU_pure {i:Nat} {oi:Oper} {v:Value} (hi:ops[i]?=some oi) (hsel:∀(j:Nat) (o:Oper) cs b,ops[j]?=some o→o.op≠.select cs b) (him:i<m)
 (hQ:∀c a w,Q (.panic c) (a.put oi.dst v) w→Q (.panic c) a w) :
 ∀ (fuel:Nat) (listed:Array Bool) (a:Act) (w:World),
  (∀j oj,ops[j]?=some oj→j≠i→listed.getD j true=false→(∀e∈oj.after,Region.binds md e=true→e.on≠i)→oi.apart ops oj=true) →
  i∈Region.ready md ops listed→Yields P ops oi v a→S w →
  wpAnyU P md ops Q S m fuel (listed.setIfInBounds i true) (a.put oi.dst v) w→wpAnyU P md ops Q S m (fuel+1) listed a w:=by
 intro fuel
 induction fuel with
 | zero =>
  intro listed a w _ hr hy hS H hI
  refine ⟨fun h=>(by rw [h] at hr;cases hr),fun j hj=>?_⟩
  by_cases hji:j=i
  ·subst hji;rw [if_pos him];exact hy.yieldsIf.wpOp hi hS ⟨hS,H⟩
  ·have:=ready_mono hj hji
   rw [(H (hI.set hr)).1] at this
   cases this
 | succ fuel ih =>
  intro listed a w hfree hr hy hS H hI
  refine ⟨fun h=>(by rw [h] at hr;cases hr),fun j hj=>?_⟩
  by_cases hji:j=i
  ·subst hji;rw [if_pos him];exact hy.yieldsIf.wpOp hi hS ⟨hS,H⟩
  ·have h1:=(H (hI.set hr)).2 j (ready_mono hj hji)
   obtain ⟨hjun,oj,hoj,hall⟩:=mem_ready.1 hj
   have hnot:∀e∈oj.after,Region.binds md e=true→e.on≠i:=fun e he hb heq=>by
    have h1:=hall e he hb
    have h0:=(mem_ready.1 hr).1
    rw [heq] at h1
    exact getD_two h1 h0
   have hfree':∀k ok,ops[k]?=some ok→k≠i→(listed.setIfInBounds j true).getD k true=false →
    (∀e∈ok.after,Region.binds md e=true→e.on≠i)→oi.apart ops ok=true:=fun k ok hk hki hun hno=>by
    refine hfree k ok hk hki ?_ hno
    by_cases hjk:j=k
    ·subst hjk;exact hjun
    ·rw [getD_set_ne true hjk] at hun;exact hun
   by_cases hjm:j<m
   ·rw [if_pos hjm] at h1 ⊢
    have h2:=wpOp_put hoj (hfree j oj hoj hji hjun hnot) (fun cs b=>hsel i oi cs b hi) (fun cs b=>hsel j oj cs b hoj) hQ hy h1
    refine wpOp_mono (fun a' w' h3=>⟨h3.2.1,ih (listed.setIfInBounds j true) a' w' hfree' (ready_mono hr (Ne.symm hji)) h3.1 h3.2.1 ?_⟩) h2
    rw [Array.setIfInBounds_comm _ _ hji]
    exact h3.2.2
   ·rw [if_neg hjm] at h1 ⊢
    have h2:=wpOp_put hoj (hfree j oj hoj hji hjun hnot) (fun cs b=>hsel i oi cs b hi) (fun cs b=>hsel j oj cs b hoj) hQ hy h1
    refine wpOp_mono (fun a' w' h3=>?_) h2
    refine wpAny_first hi hsel hQ fuel _ a' w' hfree' (ready_mono hr (Ne.symm hji)) h3.1 ?_
    rw [Array.setIfInBounds_comm _ _ hji]
    exact h3.2
theorem wpAnyU_takeP {i:Nat} {oi:Oper} {v:Value} {fuel:Nat} {listed:Array Bool} {a:Act} {w:World} (hi:ops[i]?=some oi)
 (hs:Region.noSelect ops=true) (hf:Region.free md ops listed i=true) (hr:(Region.ready md ops listed).contains i=true) (him:i<m)
 (hQ:∀c a w,Q (.panic c) (a.put oi.dst v) w→Q (.panic c) a w) (hy:Yields P ops oi v a) (hS:S w)
 (h:wpAnyU P md ops Q S m fuel (listed.setIfInBounds i true) (a.put oi.dst v) w):wpAnyU P md ops Q S m (fuel+1) listed a w :=
 wpAnyU_pure hi (Region.noSelect_spec hs) him hQ fuel listed a w (Region.free_spec hi hf) (by simpa using hr) hy hS h
theorem tP (i:Nat) {oi:Oper} {v:Value} {fuel:Nat} {listed:Array Bool} {a a':Act} {w:World} (hi:ops[i]?=some oi) (hQ:∀c a w,Q (.panic c) (a.put oi.dst v) w→Q (.panic c) a w) (hS:S w) (h:wpAnyU P md ops Q S m fuel (listed.setIfInBounds i true) a' w)
 (hw:Region.wanted oi (yielded ops a.tmps)=true:=by rfl) (hy:∀w,(execOp a.eval oi).run P w=.ok (.value v) w:=by (intro w;go_simp <;> with_reducible rfl))
 (ha:a.put oi.dst v=a':=by ((try simp only [Act.put,sI,sZ,sS]);with_reducible rfl))
 (hs:Region.noSelect ops=true:=by as_aux_lemma=>kernel_rfl) (hf:Region.free md ops listed i=true:=by as_aux_lemma=>kernel_rfl) (hr:(Region.ready md ops listed).contains i=true:=by as_aux_lemma=>kernel_rfl) (him:i<m:=by decide):wpAnyU P md ops Q S m (fuel+1) listed a w :=
 wpAnyU_takeP hi hs hf hr him hQ (Or.inl ⟨hw,hy⟩) hS (ha▸h)
theorem tL (i:Nat) {oi:Oper} {v:Value} {fuel:Nat} {listed:Array Bool} {a a':Act} {w:World} (hi:ops[i]?=some oi) (hQ:∀c a w,Q (.panic c) (a.put oi.dst v) w→Q (.panic c) a w) (hS:S w) (h:wpAnyU P md ops Q S m fuel (listed.setIfInBounds i true) a' w)
 (hw:Region.wanted oi (yielded ops a.tmps)=true:=by rfl) (hy:∀w,S w→(execOp a.eval oi).run P w=.ok (.value v) w:=by (intro w hSw;(try dsimp only at hSw);go_simp <;> with_reducible rfl))
 (ha:a.put oi.dst v=a':=by ((try simp only [Act.put,sI,sZ,sS]);with_reducible rfl))
 (hs:Region.noSelect ops=true:=by as_aux_lemma=>kernel_rfl) (hf:Region.free md ops listed i=true:=by as_aux_lemma=>kernel_rfl) (hr:(Region.ready md ops listed).contains i=true:=by as_aux_lemma=>kernel_rfl) (hl:lateR md ops m i=true:=by as_aux_lemma=>kernel_rfl):wpAnyU P md ops Q S m (fuel+1) listed a w :=
 wpAnyU_take hi hs hf hr hl hQ (Or.inl ⟨hw,hy⟩) hS (ha▸h)
def AllReadyU (P:Program) (md:Region.Mode) (ops:Array Oper) (Q:Exit→Act→World→Prop) (S:World→Prop) (m:Nat) (fuel:Nat) (listed:Array Bool) (a:Act) (w:World) (rs:List Nat):Prop :=
 ∀i∈rs,wpOp P ops Q i (fun a' w'=>S w'∧wpAnyU P md ops Q S m fuel (listed.setIfInBounds i true) a' w') a w
theorem AllReadyU.nil {fuel:Nat} {listed:Array Bool} {a:Act} {w:World}:AllReadyU P md ops Q S m fuel listed a w []:=fun _ h=>by cases h
theorem AllReadyU.cons {fuel:Nat} {listed:Array Bool} {a:Act} {w:World} {i:Nat} {o:Oper} {rs:List Nat} (ho:ops[i]?=some o)
 (h:∀K':Act→World→Prop,Shut (∀a w,S w→(S w→wpAnyU P md ops Q S m fuel (listed.setIfInBounds i true) a w)→K' a w)→if Region.wanted o (yielded ops a.tmps)=true then Oper.wp P o a w K' Q else K' (a.put o.dst undef) w)
 (hs:AllReadyU P md ops Q S m fuel listed a w rs):AllReadyU P md ops Q S m fuel listed a w (i::rs):=fun j hj=>by
 rcases List.mem_cons.1 hj with rfl | hj
 ·exact wpOp_step ho (fun K' hK=>h K' (fun a w hS hW=>hK a w ⟨hS,hW hS⟩))
 ·exact hs j hj
theorem wpAnyU_ready {rs:List Nat} {fuel:Nat} {listed:Array Bool} {a:Act} {w:World} (hr:Region.ready md ops listed=rs) (hne:rs≠[]) (hm:∀i∈rs,i<m)
 (h:AllReadyU P md ops Q S m fuel listed a w rs):wpAnyU P md ops Q S m (fuel+1) listed a w:=fun _ =>
 ⟨fun h0=>absurd (hr▸h0) hne,fun i hi=>by
  have hi':i∈rs:=by rw [←hr];exact hi
  rw [if_pos (hm i hi')]
  exact h i hi'⟩
theorem rU (rs:List Nat) {fuel:Nat} {listed:Array Bool} {a:Act} {w:World} (h:AllReadyU P md ops Q S m fuel listed a w rs) (hr:Region.ready md ops listed=rs:=by as_aux_lemma=>kernel_rfl) (hne:rs≠[]:=by simp) (hm:∀i∈rs,i<m:=by simp):wpAnyU P md ops Q S m (fuel+1) listed a w:=wpAnyU_ready hr hne hm h
def lineR (md:Region.Mode) (ops:Array Oper):Nat→Nat→Array Bool→Bool
 | _,0,listed=>(Region.ready md ops listed).isEmpty
 | k,n+1,listed=>(Region.ready md ops listed==[k])&&lineR md ops (k+1) n (listed.setIfInBounds k true)
theorem wpAny_line:∀(n k fuel:Nat) (listed:Array Bool) (a:Act) (w:World),lineR md ops k n listed=true→n≤fuel→wpOps P ops Q (List.range' k n) a w→wpAny P md ops Q fuel listed a w
 | 0,k,fuel,listed,a,w,hl,_,h=>by
  refine wpAny_done ?_ (by simpa [wpOps] using h) fuel
  unfold lineR at hl
  simpa using hl
 | n+1,k,fuel,listed,a,w,hl,hf,h=>by
  unfold lineR at hl
  rw [Bool.and_eq_true,beq_iff_eq] at hl
  obtain ⟨hr,hl2⟩:=hl
  obtain ⟨f,rfl⟩:∃f,fuel=f+1:=⟨fuel-1,by omega⟩
  refine wpAny_all hr (by simp) fun i hi=>?_
  obtain rfl:i=k:=by simpa using hi
  rw [List.range'_succ,wpOps_cons] at h
  exact wpOp_mono (fun a' w' h'=>wpAny_line n (i+1) f _ a' w' hl2 (by omega) h') h
theorem wpAnyU_line {fuel:Nat} {listed:Array Bool} {a:Act} {w:World} (n:Nat) (hl:lineR md ops m (n+1) listed=true) (hn:ops.size=m+(n+1)) (hf:n+1≤fuel) (h:wpList P ops Q (ops.toList.drop m) a w):wpAnyU P md ops Q S m fuel listed a w:=by
 have hlen:(ops.toList.drop m).length=n+1:=by rw [List.length_drop,Array.length_toList,hn];omega
 have h1:wpAny P md ops Q fuel listed a w:=wpAny_line (n+1) m fuel listed a w hl hf (by
  rw [←wpOps_eq_wpList (ops.toList.drop m) m (fun j=>by rw [List.getElem?_drop,Array.getElem?_toList]),hlen] at h
  exact h)
 unfold lineR at hl
 rw [Bool.and_eq_true,beq_iff_eq] at hl
 cases fuel with
 | zero=>exact fun _=>h1
 | succ f=>exact fun _=>⟨h1.1,fun i hi=>by
  have h2:=h1.2 i hi
  rw [hl.1] at hi
  obtain rfl:i=m:=by simpa using hi
  rw [if_neg (Nat.lt_irrefl _)]
  exact h2⟩
theorem wp_region_U {id:Nat} {a:Act} {w:World} (S:World→Prop) (m:Nat) (hm:P.follows .mixedOrders=true)
 (h:wpAnyU P .any ops Q S m ops.size (Array.replicate ops.size false) a w.drew):(Code.region id ops true).wp P Q a w :=
 wp_region_any hm (wpAny_of_U _ _ _ _ (InvR.start _) h)
end
end Go.Proofs.YtojmcmghmnfjeaaGreatDoor
namespace Go.Proofs.YtojmcmghmnfjeaaGreatDoor
open Go Go.RowKit
set_option linter.unusedVariables false
set_option linter.unusedSimpArgs false
section
variable {P:Program} {md:Region.Mode} {ops:Array Oper} {Q:Exit→Act→World→Prop}
theorem ready_none {listed:Array Bool} (hed:((List.range ops.size).all fun i=>(edgesR md ops i).all fun x=>decide (x<i))=true) (hr:Region.ready md ops listed=[]):∀j,j<ops.size→listed.getD j true=true:=by
 intro j
 induction j using Nat.strongRecOn with
 | ind j ih =>
  intro hj
  cases hl:listed.getD j true with
  | true=>rfl
  | false =>
   exfalso
   have hm:j∈Region.ready md ops listed:=by
    refine mem_ready.2 ⟨hl,ops[j],Array.getElem?_eq_getElem hj,fun e he hb=>?_⟩
    have h1:=List.all_eq_true.1 hed j (List.mem_range.2 hj)
    have h2:=List.all_eq_true.1 h1 e.on (by
     unfold edgesR
     rw [Array.getElem?_eq_getElem hj]
     dsimp only
     exact List.mem_map.2 ⟨e,List.mem_filter.2 ⟨by simpa using he,hb⟩,rfl⟩)
    have h3:=of_decide_eq_true h2
    have h4:=ih e.on h3 (by omega)
    have hs:e.on<listed.size:=by
     rcases Nat.lt_or_ge j listed.size with q | q
     ·omega
     ·simp [q] at hl
    rw [Array.getD_eq_getD_getElem?,Array.getElem?_eq_getElem hs] at h4 ⊢
    exact h4
   rw [hr] at hm
   cases hm
theorem set_D {listed:Array Bool} {i:Nat} (h:i<listed.size):(fun j=>(listed.setIfInBounds i true).getD j false)=fun j=>decide (j=i)||listed.getD j false:=by
 funext j
 by_cases e:j=i
 ·subst e
  simp [h]
 ·rw [getD_set_ne false (Ne.symm e)]
  simp [e]
theorem wpAny_inv (Inv:(Nat→Bool)→Act→World→Prop) (hed:((List.range ops.size).all fun i=>(edgesR md ops i).all fun x=>decide (x<i))=true)
 (steps:∀i,i<ops.size→∀(D:Nat→Bool) a w,D i=false→(∀x,(edgesR md ops i).contains x=true→D x=true)→Inv D a w→wpOp P ops Q i (Inv fun j=>decide (j=i)||D j) a w)
 (done:∀(D:Nat→Bool) a w,(∀j,j<ops.size→D j=true)→Inv D a w→Q .normal a w) :
 ∀(fuel:Nat) (listed:Array Bool) (a:Act) (w:World),listed.size=ops.size→listed.toList.count false≤fuel→Inv (fun j=>listed.getD j false) a w→wpAny P md ops Q fuel listed a w:=by
 have all:∀(listed:Array Bool) (a:Act) (w:World),listed.size=ops.size→Region.ready md ops listed=[]→Inv (fun j=>listed.getD j false) a w→Q .normal a w:=fun listed a w hs hr h=>by
  refine done _ a w (fun j hj=>?_) h
  have:=ready_none hed hr j hj
  rw [Array.getD_eq_getD_getElem?,Array.getElem?_eq_getElem (by omega)] at this ⊢
  exact this
 have one:∀(listed:Array Bool) (a:Act) (w:World) (i:Nat),listed.size=ops.size→i∈Region.ready md ops listed→Inv (fun j=>listed.getD j false) a w→wpOp P ops Q i (Inv fun j=>(listed.setIfInBounds i true).getD j false) a w:=fun listed a w i hs hi h=>by
  obtain ⟨hun,o,ho,hall⟩:=mem_ready.1 hi
  have hlt:i<ops.size:=(Array.getElem?_eq_some_iff.1 ho).1
  rw [set_D (by omega)]
  refine steps i hlt _ a w ?_ (fun x hx=>?_) h
  ·rw [Array.getD_eq_getD_getElem?,Array.getElem?_eq_getElem (by omega)] at hun ⊢
   exact hun
  ·obtain ⟨o',e,ho',he,hb,rfl⟩:=edgesR_mem (List.contains_iff_mem.1 hx)
   rw [ho] at ho'
   cases ho'
   exact hall e he hb
 intro fuel
 induction fuel with
 | zero =>
  intro listed a w hs hc h
  have hr:Region.ready md ops listed=[]:=by
   refine List.eq_nil_iff_forall_not_mem.2 fun i hi=>?_
   obtain ⟨h1,o,ho,_⟩:=mem_ready.1 hi
   have hlt:i<listed.size:=by rw [hs];exact (Array.getElem?_eq_some_iff.1 ho).1
   rw [Array.getD_eq_getD_getElem?,Array.getElem?_eq_getElem hlt] at h1
   have hm:false∈listed.toList:=by
    rw [←(show listed[i]=false from h1)]
    simp
   have:=List.count_pos_iff.2 hm
   omega
  exact ⟨hr,all listed a w hs hr h⟩
 | succ fuel ih =>
  intro listed a w hs hc h
  refine ⟨fun hr=>all listed a w hs hr h,fun i hi=>wpOp_mono (fun a' w' h'=>ih _ a' w' (by simpa using hs) ?_ h') (one listed a w i hs hi h)⟩
  obtain ⟨h1,o,ho,_⟩:=mem_ready.1 hi
  have hlt:i<listed.size:=by rw [hs];exact (Array.getElem?_eq_some_iff.1 ho).1
  rw [Array.getD_eq_getD_getElem?,Array.getElem?_eq_getElem hlt] at h1
  have h2:listed[i]=false:=h1
  have hm:false∈listed.toList:=by
   rw [←h2]
   simp
  have hp:=List.count_pos_iff.2 hm
  rw [Array.toList_setIfInBounds,List.count_set (by simpa using hlt)]
  have e:listed.toList[i]'(by simpa using hlt)=false:=by simpa using h2
  rw [e]
  simp only [show (false==false)=true from rfl,show (true==false)=false from rfl,if_true,Bool.false_eq_true,if_false]
  omega
theorem wp_region_inv {id:Nat} {a:Act} {w:World} (Inv:(Nat→Bool)→Act→World→Prop) (hm:P.follows .mixedOrders=true) (hed:((List.range ops.size).all fun i=>(edgesR .any ops i).all fun x=>decide (x<i))=true)
 (start:Inv (fun _=>false) a w.drew)
 (steps:∀i,i<ops.size→∀(D:Nat→Bool) a w,D i=false→(∀x,(edgesR .any ops i).contains x=true→D x=true)→Inv D a w→wpOp P ops Q i (Inv fun j=>decide (j=i)||D j) a w)
 (done:∀(D:Nat→Bool) a w,(∀j,j<ops.size→D j=true)→Inv D a w→Q .normal a w):(Code.region id ops true).wp P Q a w:=by
 refine wp_region_any hm (wpAny_inv Inv hed steps done _ _ _ _ (by simp) (by simp) ?_)
 have e:(fun j=>(Array.replicate ops.size false).getD j false)=fun _=>false:=by
  funext j
  rcases Nat.lt_or_ge j ops.size with q | q
  ·simp [q]
  ·simp [q]
 rw [e]
 exact start
end
def AwayL (A:Option Addr) (n:Nat) (L:List Nat):Prop:=0<n→∀a,A=some a→a.block∉L
theorem repS_any {w w':World} {lo hi lo' hi':Nat} {cs:List Value} {x:ByteArray} (h:shS.rep w lo hi cs x):shS.rep w' lo' hi' cs x:=h
theorem repI_any {w w':World} {lo hi lo' hi':Nat} {cs:List Value} {x:Int} (h:shI.rep w lo hi cs x):shI.rep w' lo' hi' cs x:=h
theorem SR.outside {α:Type} {s:Sh α} (hf:∀{w w':World} {lo hi lo' hi':Nat} {cs:List Value} {x:α},s.rep w lo hi cs x→s.rep w' lo' hi' cs x) {w w':World} {A:Option Addr} {c:Nat} {xs:List α} {L:List Nat} (h:SRW s w A c xs) (ha:AwayL A xs.length L) (k:Only L w w'):SRW s w' A c xs:=by
 refine ⟨h.1,h.2.1,fun hp=>?_⟩
 obtain ⟨g,off,hA,h1,h2,h3⟩:=h.2.2 hp
 have hn:g∉L:=ha hp _ hA
 refine ⟨g,off,hA,h1,Nat.lt_of_lt_of_le h2 k.size,fun i hi=>?_⟩
 obtain ⟨cs,hc,hr⟩:=h3 i hi
 exact ⟨cs,⟨hc.1,fun j hj=>(World.cell?_of_block (k.block g h2 hn)).trans (hc.2 j hj)⟩,hf hr⟩
def PgN (L:List Nat) (w:World) (v:Value) (p:TPage):Prop :=
 ∃(A1:Option Addr) (c1:Nat) (A2:Option Addr) (c2:Nat) (A3:Option Addr) (c3:Nat),v=.agg #[.bool p.1,.slice A1 p.2.1.length c1,.slice A2 p.2.2.1.length c2,.slice A3 p.2.2.2.length c3]∧(SRW shS w A1 c1 p.2.1∧SRW shS w A2 c2 p.2.2.1∧SRW shI w A3 c3 p.2.2.2)∧AwayL A1 p.2.1.length L∧AwayL A2 p.2.2.1.length L∧AwayL A3 p.2.2.2.length L
section
variable {L:List Nat} {w w':World} {v:Value} {p:TPage}
theorem PgN.go (h:PgN L w v p) (k:Only L w w'):PgN L w' v p:=by
 obtain ⟨A1,c1,A2,c2,A3,c3,hv,⟨s1,s2,s3⟩,a1,a2,a3⟩:=h
 exact ⟨A1,c1,A2,c2,A3,c3,hv,⟨s1.outside repS_any a1 k,s2.outside repS_any a2 k,s3.outside repI_any a3 k⟩,a1,a2,a3⟩
theorem PgN.up (h:PgN L w v p) (u:Up w w'):PgN L w' v p:=h.go (Only.of_up u)
theorem PgN.sub (h:PgN L w v p) {L':List Nat} (hs:∀q∈L',q∈L):PgN L' w v p:=by
 obtain ⟨A1,c1,A2,c2,A3,c3,hv,hh,a1,a2,a3⟩:=h
 exact ⟨A1,c1,A2,c2,A3,c3,hv,hh,fun hp a e hm=>a1 hp a e (hs _ hm),fun hp a e hm=>a2 hp a e (hs _ hm),fun hp a e hm=>a3 hp a e (hs _ hm)⟩
theorem PgN.av (h:PgN L w v p):AV shPage w v p:=by
 obtain ⟨A1,c1,A2,c2,A3,c3,hv,⟨s1,s2,s3⟩,_⟩:=h
 exact ⟨_,hv,mkPage s1 s2 s3⟩
theorem PgN.k (h:PgN L w v p) {g:Nat} (hg:g∈L):PgK g w v p:=by
 have h':PgN [g] w v p:=h.sub fun q hq=>by rw [List.mem_singleton.1 hq];exact hg
 obtain ⟨A1,c1,A2,c2,A3,c3,hv,⟨s1,s2,s3⟩,a1,a2,a3⟩:=h'
 exact ⟨_,hv,fun V kv=>mkPage (s1.outside repS_any a1 kv) (s2.outside repS_any a2 kv) (s3.outside repI_any a3 kv)⟩
theorem SO.away {α:Type} {s:Sh α} {lo hi:Nat} {A:Option Addr} {c:Nat} {xs:List α} {bl:List Nat} (h:SO s w lo hi A c xs bl) (hb:∀q∈bl,q∉L):AwayL A xs.length L:=fun hp a ha=>by
 rcases h.2.2 with ⟨rfl,_⟩ | ⟨g,off,C,tid,bls,hA,_,_,_,_,rfl,_⟩
 ·simp at hp
 ·rw [hA] at ha
  injection ha with ha
  rw [←ha]
  exact hb g (List.mem_cons_self ..)
theorem PgN.of_own {lo:Nat} {cs:List Value} {bl:List Nat} (h:shPage.own w lo w.heap.size cs p bl) (hb:∀q∈bl,q∉L):PgN L w (.agg cs.toArray) p:=by
 obtain ⟨A1,c1,bl1,A2,c2,bl2,A3,c3,bl3,rfl,rfl,s1,s2,s3⟩:=openOPage h
 exact ⟨A1,c1,A2,c2,A3,c3,rfl,⟨SR.of_own good_S s1,SR.of_own good_S s2,SR.of_own good_I s3⟩,s1.away fun q hq=>hb q (by simp [hq]),s2.away fun q hq=>hb q (by simp [hq]),s3.away fun q hq=>hb q (by simp [hq])⟩
def voidW (w:World) (q:Nat):World:={ w with heap:=w.heap.setIfInBounds q (.cells #[] 0 (0,0)) }
theorem void_only (w:World) (q:Nat):Only [q] w (voidW w q):=⟨rfl,rfl,rfl,by simp [voidW],fun i hi hn=>by
 unfold voidW
 dsimp only
 rw [Array.getElem?_setIfInBounds_ne (fun e=>hn (by simp [e]))]⟩
theorem void_cell (w:World) (q i:Nat):(voidW w q).cell? ⟨q,i,none⟩=none:=by
 unfold voidW World.cell?
 dsimp only
 rcases Nat.lt_or_ge q w.heap.size with h | h
 ·rw [Array.getElem?_setIfInBounds_self_of_lt h]
  simp
 ·rw [Array.getElem?_eq_none (by simpa using h)]
theorem RowP.away {α:Type} {s:Sh α} (hg:Good s) (h1:0<s.size) {q:Nat} {A:Option Addr} {c:Nat} {xs:List α} (h:RowP s q w A c xs):AwayL A xs.length [q]:=fun hp a ha hm=>by
 obtain ⟨g,off,hA,_,_,h3⟩:=(h _ (void_only w q)).2.2 hp
 rw [hA] at ha
 injection ha with ha
 subst ha
 have e:g=q:=List.mem_singleton.1 hm
 subst e
 obtain ⟨cs,hc,_⟩:=h3 0 hp
 have h4:=hc.2 0 h1
 rw [void_cell] at h4
 have:=hc.1
 rw [List.getElem?_eq_getElem (by omega)] at h4
 cases h4
theorem PgN.of_k {q:Nat} (h:PgK q w v p):PgN [q] w v p:=by
 obtain ⟨A1,c1,A2,c2,A3,c3,hv,r1,r2,r3⟩:=h.rows
 exact ⟨A1,c1,A2,c2,A3,c3,hv,⟨r1.sr,r2.sr,r3.sr⟩,r1.away good_S (by decide),r2.away good_S (by decide),r3.away good_I (by decide)⟩
theorem AwayL.cons {A:Option Addr} {n b:Nat} (h:AwayL A n L) (k:AwayL A n [b]):AwayL A n (b::L):=fun hp a ha hm=>by
 rcases List.mem_cons.1 hm with e | hm
 ·exact k hp a ha (by simp [e])
 ·exact h hp a ha hm
def NoText (C:Array Value):Prop:=∀(i:Nat) (s:ByteArray),C[i]?≠some (.string s)
def NoInts (C:Array Value):Prop:=∀(i:Nat) (n m:Int),C[i]?=some (.int .i64 n)→C[i+1]?≠some (.int .i64 m)
def NoInt (C:Array Value):Prop:=∀(i:Nat) (n:Int),C[i]?≠some (.int .i64 n)
theorem away_S {A:Option Addr} {c b:Nat} {l:List ByteArray} {t:TypeId} {C:Array Value} (h:SRW shS w A c l) (k:Bk w b t C) (hC:NoText C):AwayL A l.length [b]:=fun hp a ha hm=>by
 obtain ⟨g,off,hA,_,_,h3⟩:=h.2.2 hp
 rw [hA] at ha
 injection ha with ha
 subst ha
 have e:g=b:=List.mem_singleton.1 hm
 subst e
 obtain ⟨cs,hc,hr⟩:=h3 0 hp
 obtain ⟨rfl,_⟩:=(show cs=[.string l[0]]∧_ from hr)
 have h4:=hc.2 0 (by decide)
 rw [k.cell] at h4
 exact hC _ _ h4
theorem away_I {A:Option Addr} {c b:Nat} {l:List Int} {t:TypeId} {C:Array Value} (h:SRW shI w A c l) (k:Bk w b t C) (hC:NoInt C):AwayL A l.length [b]:=fun hp a ha hm=>by
 obtain ⟨g,off,hA,_,_,h3⟩:=h.2.2 hp
 rw [hA] at ha
 injection ha with ha
 subst ha
 have e:g=b:=List.mem_singleton.1 hm
 subst e
 obtain ⟨cs,hc,hr⟩:=h3 0 hp
 obtain ⟨rfl,_⟩:=(show cs=[.int .i64 l[0]]∧_ from hr)
 have h4:=hc.2 0 (by decide)
 rw [k.cell] at h4
 exact hC _ _ h4
theorem away_I2 {A:Option Addr} {c b:Nat} {l:List Int} {t:TypeId} {C:Array Value} (h:SRW shI w A c l) (k:Bk w b t C) (hC:NoInts C) (hl:l.length≠1):AwayL A l.length [b]:=fun hp a ha hm=>by
 obtain ⟨g,off,hA,_,_,h3⟩:=h.2.2 hp
 rw [hA] at ha
 injection ha with ha
 subst ha
 have e:g=b:=List.mem_singleton.1 hm
 subst e
 obtain ⟨cs,hc,hr⟩:=h3 0 hp
 obtain ⟨rfl,_⟩:=(show cs=[.int .i64 l[0]]∧_ from hr)
 obtain ⟨cs1,hc1,hr1⟩:=h3 1 (by omega)
 obtain ⟨rfl,_⟩:=(show cs1=[.int .i64 l[1]]∧_ from hr1)
 have h4:=hc.2 0 (by decide)
 have h5:=hc1.2 0 (by decide)
 rw [k.cell] at h4 h5
 exact hC (off+0) _ _ h4 h5
theorem PgN.box (h:PgN L w v p) {b:Nat} {t:TypeId} {C:Array Value} (k:Bk w b t C) (h1:NoText C) (h2:NoInt C):PgN (b::L) w v p:=by
 obtain ⟨A1,c1,A2,c2,A3,c3,hv,⟨s1,s2,s3⟩,a1,a2,a3⟩:=h
 exact ⟨A1,c1,A2,c2,A3,c3,hv,⟨s1,s2,s3⟩,a1.cons (away_S s1 k h1),a2.cons (away_S s2 k h1),a3.cons (away_I s3 k h2)⟩
theorem PgN.tree (h:PgN L w v p) {b:Nat} {t:TypeId} {C:Array Value} (k:Bk w b t C) (h1:NoText C) (h2:NoInts C) (hl:p.2.2.2.length≠1):PgN (b::L) w v p:=by
 obtain ⟨A1,c1,A2,c2,A3,c3,hv,⟨s1,s2,s3⟩,a1,a2,a3⟩:=h
 exact ⟨A1,c1,A2,c2,A3,c3,hv,⟨s1,s2,s3⟩,a1.cons (away_S s1 k h1),a2.cons (away_S s2 k h1),a3.cons (away_I2 s3 k h2 hl)⟩
theorem PgN.but (h:PgN L w v p) {b:Nat} {t:TypeId} {C:Array Value} (k:Bk w b t C) (h1:NoText C) (h2:NoInt C) (bt:But b w w'):PgN L w' v p :=
 ((h.box k h1 h2).go ((Only.refl _ _).but bt (List.mem_cons_self ..))).sub fun q hq=>List.mem_cons_of_mem _ hq
end
theorem page_noText (f:Bool) (A1:Option Addr) (n1 c1:Nat) (A2:Option Addr) (n2 c2:Nat) (A3:Option Addr) (n3 c3:Nat):NoText #[.bool f,.slice A1 n1 c1,.slice A2 n2 c2,.slice A3 n3 c3]:=fun i s h=>by
 match i,h with
 | 0,h=>simp at h
 | 1,h=>simp at h
 | 2,h=>simp at h
 | 3,h=>simp at h
 | n+4,h=>simp at h
theorem page_noInt (f:Bool) (A1:Option Addr) (n1 c1:Nat) (A2:Option Addr) (n2 c2:Nat) (A3:Option Addr) (n3 c3:Nat):NoInt #[.bool f,.slice A1 n1 c1,.slice A2 n2 c2,.slice A3 n3 c3]:=fun i s h=>by
 match i,h with
 | 0,h=>simp at h
 | 1,h=>simp at h
 | 2,h=>simp at h
 | 3,h=>simp at h
 | n+4,h=>simp at h
theorem tree_noText (r:Int) (A:Option Addr) (n c:Nat):NoText #[.int .i64 r,.slice A n c]:=fun i s h=>by
 match i,h with
 | 0,h=>simp at h
 | 1,h=>simp at h
 | n+2,h=>simp at h
theorem tree_noInts (r:Int) (A:Option Addr) (n c:Nat):NoInts #[.int .i64 r,.slice A n c]:=fun i a b _ h=>by
 match i,h with
 | 0,h=>simp at h
 | n+1,h=>simp at h
end Go.Proofs.YtojmcmghmnfjeaaGreatDoor
