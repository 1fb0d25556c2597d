/-
 Parts of the proof.
-/
import Derived.WalkKit
import Derived.WalkSpells
import Derived.WalkLawsBesides
import Derived.Deep.Slices
import Derived.Deep.Fields
import Derived.Deep.Draws
import Derived.Deep.QuietTactic
import Derived.BigQuiet
import Derived.Lib.Hide
import Derived.Test.YtojmcmghmnfjeaaGreatDoorRows
import Derived.Deep.AppendLies
import Derived.Deep.AppendSrc
import Derived.Deep.Upon
import Derived.Test.YtojmcmghmnfjeaaGreatDoorShelf
import Derived.Lib.SlBytesRow
import Derived.Lib.Repeat
import Derived.Laws.BitsAllLaws
import Derived.Lib.ConvBytes
namespace Go.Proofs.YtojmcmghmnfjeaaGreatDoor
open Go.RowKit Go.ChangeShapes Go.WideShapes Go.Deep
/-! ### Worlds that only grow -/
theorem Hd {p:Prop} (h:p):RowKit.Hid p:=h
theorem sI {α:Type} {l:List α} {i:Nat} {a:α}:l.toArray.setIfInBounds i a=(l.set i a).toArray:=by simp
theorem sZ {α:Type} {x a:α} {l:List α}:(x::l).set 0 a=a::l:=rfl
theorem sS {α:Type} {x a:α} {l:List α} {i:Nat}:(x::l).set (i+1) a=x::l.set i a:=rfl
abbrev Up (w w':World):Prop:=Below w.heap.size w w'
theorem Up.refl (w:World):Up w w:=Below.refl _ _
theorem Up.trans {a b c:World} (h:Up a b) (k:Up b c):Up a c:=Below.trans h (Below.mono k h.size)
theorem Up.alloc {a w:World} (h:Up a w) (o:Obj):Up a (w.alloc o):=Below.alloc h h.size o
theorem Up.drew {a w:World} (h:Up a w):Up a w.drew:=Below.drew h
theorem Up.drewN {a w:World} (h:Up a w) (n:Nat):Up a (w.drewN n):=⟨h.os,h.tape,h.output,h.size,h.block⟩
theorem Up.setCell {a w:World} (h:Up a w) {p:Addr} (hp:a.heap.size≤p.block) (u:Value):Up a (w.setCell p u):=Below.setCell h hp u
def Keeps (lo hi:Nat) (w w':World):Prop:=∀b,lo≤b→b<hi→w'.heap[b]?=w.heap[b]?
theorem Up.keeps {a w:World} (h:Up a w) {lo hi:Nat} (hh:hi≤a.heap.size):Keeps lo hi a w:=fun b _ hb=>h.block b (by omega)
/-! ### Shapes -/
structure Sh (α:Type) where
 size:Nat
 rep:World→Nat→Nat→List Value→α→Prop
 own:World→Nat→Nat→List Value→α→List Nat→Prop
 sz:α→Nat
structure Good {α:Type} (s:Sh α):Prop where
 len:∀{w lo hi cs x},s.rep w lo hi cs x→cs.length=s.size
 keep:∀{w w' lo hi cs x},s.rep w lo hi cs x→Keeps lo hi w w'→s.rep w' lo hi cs x
 wide:∀{w lo hi lo' hi' cs x},s.rep w lo hi cs x→lo'≤lo→hi≤hi'→s.rep w lo' hi' cs x
 own_rep:∀{w lo hi cs x bl},s.own w lo hi cs x bl→s.rep w lo hi cs x
 own_in:∀{w lo hi cs x bl},s.own w lo hi cs x bl→∀b∈bl,lo≤b∧b<hi
 own_keep:∀{w w' lo hi cs x bl},s.own w lo hi cs x bl→(∀b∈bl,w'.heap[b]?=w.heap[b]?)→s.own w' lo hi cs x bl
 own_wide:∀{w lo hi lo' hi' cs x bl},s.own w lo hi cs x bl→lo'≤lo→hi≤hi'→s.own w lo' hi' cs x bl
 own_le:∀{w lo hi cs x bl},s.own w lo hi cs x bl→hi≤w.heap.size∨∀b∈bl,b<w.heap.size
 pos:0<s.size
 one:∀{w lo hi cs x},s.rep w lo hi cs x→∀u∈cs,u.oneCell'=true
def shI:Sh Int where
 size:=1
 rep:=fun _ _ _ cs n=>cs=[.int .i64 n]∧-9223372036854775808≤n∧n≤9223372036854775807
 own:=fun _ _ _ cs n bl=>(cs=[.int .i64 n]∧-9223372036854775808≤n∧n≤9223372036854775807)∧bl=[]
 sz:=fun _=>0
def shB:Sh Bool where
 size:=1
 rep:=fun _ _ _ cs b=>cs=[.bool b]
 own:=fun _ _ _ cs b bl=>cs=[.bool b]∧bl=[]
 sz:=fun _=>0
def shS:Sh ByteArray where
 size:=1
 rep:=fun _ _ _ cs s=>cs=[.string s]∧s.size≤maxLen
 own:=fun _ _ _ cs s bl=>(cs=[.string s]∧s.size≤maxLen)∧bl=[]
 sz:=fun s=>s.size
def shP {α β:Type} (a:Sh α) (b:Sh β):Sh (α×β) where
 size:=a.size+b.size
 rep:=fun w lo hi cs p=>a.rep w lo hi (cs.take a.size) p.1∧b.rep w lo hi (cs.drop a.size) p.2
 own:=fun w lo hi cs p bl=>∃b1 b2,bl=b1++b2∧a.own w lo hi (cs.take a.size) p.1 b1∧b.own w lo hi (cs.drop a.size) p.2 b2
 sz:=fun p=>a.sz p.1+b.sz p.2
def ElemAt (w:World) (g off size i:Nat) (cs:List Value):Prop:=cs.length=size∧∀j,j<size→w.cell? ⟨g,off+(i*size+j),none⟩=cs[j]?
def SR {α:Type} (s:Sh α) (w:World) (lo hi:Nat) (A:Option Addr) (c:Nat) (xs:List α):Prop :=
 xs.length≤c∧c≤maxLen∧(0<xs.length→∃g off,A=some ⟨g,off,none⟩∧lo≤g∧g<hi∧∀i (h:i<xs.length),∃cs,ElemAt w g off s.size i cs∧s.rep w lo hi cs xs[i])
def SO {α:Type} (s:Sh α) (w:World) (lo hi:Nat) (A:Option Addr) (c:Nat) (xs:List α) (bl:List Nat):Prop :=
 xs.length≤c∧c≤maxLen∧((xs=[]∧bl=[]∧c=0)∨∃(g off:Nat) (C:Array Value) (tid:TypeId) (bls:List (List Nat)),A=some ⟨g,off,none⟩∧lo≤g∧g<hi∧w.heap[g]?=some (.cells C tid (0,0))∧off+c*s.size≤C.size∧bl=g::bls.flatten∧bls.length=xs.length ∧
  ∀i (h:i<xs.length),∃cs b,bls[i]?=some b∧cs.length=s.size∧(∀j,j<s.size→C[off+(i*s.size+j)]?=cs[j]?)∧s.own w lo hi cs xs[i] b)
def shL {α:Type} (s:Sh α):Sh (List α) where
 size:=1
 rep:=fun w lo hi cs xs=>∃A c,cs=[.slice A xs.length c]∧SR s w lo hi A c xs
 own:=fun w lo hi cs xs bl=>∃A c,cs=[.slice A xs.length c]∧SO s w lo hi A c xs bl
 sz:=fun xs=>xs.length+(xs.map s.sz).sum
theorem good_I:Good shI:=by
 refine ⟨?_,?_,?_,?_,?_,?_,?_,?_,by decide,?_⟩ <;> simp +contextual [shI,Value.oneCell']
theorem good_B:Good shB:=by
 refine ⟨?_,?_,?_,?_,?_,?_,?_,?_,by decide,?_⟩ <;> simp +contextual [shB,Value.oneCell']
theorem good_S:Good shS:=by
 refine ⟨?_,?_,?_,?_,?_,?_,?_,?_,by decide,?_⟩ <;> simp +contextual [shS,Value.oneCell']
theorem good_P {α β:Type} {a:Sh α} {b:Sh β} (ha:Good a) (hb:Good b):Good (shP a b) where
 len:=fun {w lo hi cs x} h=>by
  have h1:=ha.len h.1
  have h2:=hb.len h.2
  have hp:=hb.pos
  simp only [List.length_take,List.length_drop] at h1 h2
  show cs.length=a.size+b.size
  omega
 keep:=fun h k=>⟨ha.keep h.1 k,hb.keep h.2 k⟩
 wide:=fun h k l=>⟨ha.wide h.1 k l,hb.wide h.2 k l⟩
 own_rep:=fun h=>by obtain ⟨_,_,_,h1,h2⟩:=h;exact ⟨ha.own_rep h1,hb.own_rep h2⟩
 own_in:=fun h b hb'=>by
  obtain ⟨_,_,rfl,h1,h2⟩:=h
  rcases List.mem_append.1 hb' with h | h
  ·exact ha.own_in h1 b h
  ·exact hb.own_in h2 b h
 own_keep:=fun h k=>by
  obtain ⟨b1,b2,rfl,h1,h2⟩:=h
  exact ⟨b1,b2,rfl,ha.own_keep h1 (fun b hb=>k b (List.mem_append_left _ hb)),hb.own_keep h2 (fun b hb=>k b (List.mem_append_right _ hb))⟩
 own_wide:=fun h k l=>by
  obtain ⟨b1,b2,rfl,h1,h2⟩:=h
  exact ⟨b1,b2,rfl,ha.own_wide h1 k l,hb.own_wide h2 k l⟩
 own_le:=fun h=>by
  obtain ⟨b1,b2,rfl,h1,h2⟩:=h
  rcases ha.own_le h1 with h | h
  ·exact .inl h
  ·rcases hb.own_le h2 with h' | h'
   ·exact .inl h'
   ·refine .inr fun b hb=>?_
    rcases List.mem_append.1 hb with hb | hb
    ·exact h b hb
    ·exact h' b hb
 pos:=by show 0<a.size+b.size;have:=ha.pos;omega
 one:=fun {w lo hi cs x} h u hu=>by
  rw [←List.take_append_drop a.size cs] at hu
  rcases List.mem_append.1 hu with hu | hu
  ·exact ha.one h.1 u hu
  ·exact hb.one h.2 u hu
theorem ElemAt.keep {w w':World} {lo hi g off size i:Nat} {cs:List Value} (h:ElemAt w g off size i cs) (k:Keeps lo hi w w') (h1:lo≤g) (h2:g<hi):ElemAt w' g off size i cs :=
 ⟨h.1,fun j hj=>(World.cell?_of_block (w:=w) (w':=w') (a:=⟨g,off+(i*size+j),none⟩) (k g h1 h2)).trans (h.2 j hj)⟩
section
variable {α:Type} {s:Sh α} {w w':World} {lo hi lo' hi':Nat} {A:Option Addr} {c:Nat} {xs:List α} {bl:List Nat}
theorem SR.keep (hg:Good s) (h:SR s w lo hi A c xs) (k:Keeps lo hi w w'):SR s w' lo hi A c xs:=by
 refine ⟨h.1,h.2.1,fun hp=>?_⟩
 obtain ⟨g,off,hA,h1,h2,h3⟩:=h.2.2 hp
 refine ⟨g,off,hA,h1,h2,fun i hi=>?_⟩
 obtain ⟨cs,hc,hr⟩:=h3 i hi
 exact ⟨cs,hc.keep k h1 h2,hg.keep hr k⟩
theorem SR.wide (hg:Good s) (h:SR s w lo hi A c xs) (k:lo'≤lo) (l:hi≤hi'):SR s w lo' hi' A c xs:=by
 refine ⟨h.1,h.2.1,fun hp=>?_⟩
 obtain ⟨g,off,hA,h1,h2,h3⟩:=h.2.2 hp
 refine ⟨g,off,hA,by omega,by omega,fun i hi=>?_⟩
 obtain ⟨cs,hc,hr⟩:=h3 i hi
 exact ⟨cs,hc,hg.wide hr k l⟩
theorem SO.rep (hg:Good s) (h:SO s w lo hi A c xs bl):SR s w lo hi A c xs:=by
 refine ⟨h.1,h.2.1,fun hp=>?_⟩
 rcases h.2.2 with ⟨rfl,_⟩ | ⟨g,off,C,tid,bls,hA,h1,h2,hh,hcap,_,hbl,h3⟩
 ·simp at hp
 ·refine ⟨g,off,hA,h1,h2,fun i hi=>?_⟩
  obtain ⟨cs,b,_,hl,hc,hr⟩:=h3 i hi
  refine ⟨cs,⟨hl,fun j hj=>?_⟩,hg.own_rep hr⟩
  rw [←hc j hj]
  simp [World.cell?,hh]
theorem SO.in_ (hg:Good s) (h:SO s w lo hi A c xs bl):∀b∈bl,lo≤b∧b<hi:=by
 intro b hb
 rcases h.2.2 with ⟨_,rfl,_⟩ | ⟨g,off,C,tid,bls,hA,h1,h2,hh,hcap,rfl,hbl,h3⟩
 ·simp at hb
 ·rcases List.mem_cons.1 hb with rfl | hb
  ·exact ⟨h1,h2⟩
  ·obtain ⟨l,hl,hbl'⟩:=List.mem_flatten.1 hb
   obtain ⟨i,hi,rfl⟩:=List.getElem_of_mem hl
   obtain ⟨cs,b',hb',_,_,hr⟩:=h3 i (by omega)
   rw [List.getElem?_eq_getElem hi] at hb'
   injection hb' with hb'
   subst hb'
   exact hg.own_in hr b hbl'
theorem SO.keep (hg:Good s) (h:SO s w lo hi A c xs bl) (k:∀b∈bl,w'.heap[b]?=w.heap[b]?):SO s w' lo hi A c xs bl:=by
 refine ⟨h.1,h.2.1,?_⟩
 rcases h.2.2 with h0 | ⟨g,off,C,tid,bls,hA,h1,h2,hh,hcap,rfl,hbl,h3⟩
 ·exact .inl h0
 ·refine .inr ⟨g,off,C,tid,bls,hA,h1,h2,(k g (by simp)).trans hh,hcap,rfl,hbl,fun i hi=>?_⟩
  obtain ⟨cs,b,hb,hl,hc,hr⟩:=h3 i hi
  refine ⟨cs,b,hb,hl,hc,hg.own_keep hr fun x hx=>k x ?_⟩
  exact List.mem_cons_of_mem _ (List.mem_flatten.2 ⟨b,List.mem_of_getElem? hb,hx⟩)
theorem SO.wide (hg:Good s) (h:SO s w lo hi A c xs bl) (k:lo'≤lo) (l:hi≤hi'):SO s w lo' hi' A c xs bl:=by
 refine ⟨h.1,h.2.1,?_⟩
 rcases h.2.2 with h0 | ⟨g,off,C,tid,bls,hA,h1,h2,hh,hcap,rfl,hbl,h3⟩
 ·exact .inl h0
 ·refine .inr ⟨g,off,C,tid,bls,hA,by omega,by omega,hh,hcap,rfl,hbl,fun i hi=>?_⟩
  obtain ⟨cs,b,hb,hl,hc,hr⟩:=h3 i hi
  exact ⟨cs,b,hb,hl,hc,hg.own_wide hr k l⟩
theorem SO.lt (hg:Good s) (h:SO s w lo hi A c xs bl):hi≤w.heap.size∨∀b∈bl,b<w.heap.size:=by
 rcases Nat.lt_or_ge w.heap.size hi with hlt | hge
 ·refine .inr fun b hb=>?_
  rcases h.2.2 with ⟨_,rfl,_⟩ | ⟨g,off,C,tid,bls,hA,h1,h2,hh,hcap,rfl,hbl,h3⟩
  ·simp at hb
  ·rcases List.mem_cons.1 hb with rfl | hb
   ·rcases Nat.lt_or_ge b w.heap.size with h | h
    ·exact h
    ·rw [Array.getElem?_eq_none h] at hh;cases hh
   ·obtain ⟨l,hl,hbl'⟩:=List.mem_flatten.1 hb
    obtain ⟨i,hi,rfl⟩:=List.getElem_of_mem hl
    obtain ⟨cs,b',hb',_,_,hr⟩:=h3 i (by omega)
    rw [List.getElem?_eq_getElem hi] at hb'
    injection hb' with hb'
    subst hb'
    rcases hg.own_le hr with h | h
    ·omega
    ·exact h b hbl'
 ·exact .inl hge
end
theorem good_L {α:Type} {s:Sh α} (hg:Good s):Good (shL s) where
 len:=fun h=>by obtain ⟨A,c,rfl,_⟩:=h;rfl
 keep:=fun h k=>by obtain ⟨A,c,e,h⟩:=h;exact ⟨A,c,e,h.keep hg k⟩
 wide:=fun h k l=>by obtain ⟨A,c,e,h⟩:=h;exact ⟨A,c,e,h.wide hg k l⟩
 own_rep:=fun h=>by obtain ⟨A,c,e,h⟩:=h;exact ⟨A,c,e,h.rep hg⟩
 own_in:=fun h=>by obtain ⟨A,c,e,h⟩:=h;exact h.in_ hg
 own_keep:=fun h k=>by obtain ⟨A,c,e,h⟩:=h;exact ⟨A,c,e,h.keep hg k⟩
 own_wide:=fun h k l=>by obtain ⟨A,c,e,h⟩:=h;exact ⟨A,c,e,h.wide hg k l⟩
 own_le:=fun h=>by obtain ⟨A,c,e,h⟩:=h;exact h.lt hg
 pos:=Nat.one_pos
 one:=fun h u hu=>by obtain ⟨A,c,rfl,_⟩:=h;simp at hu;subst hu;rfl
abbrev SRW {α:Type} (s:Sh α) (w:World) (A:Option Addr) (c:Nat) (xs:List α):Prop:=SR s w 0 w.heap.size A c xs
theorem SR.up {α:Type} {s:Sh α} {w w':World} {A:Option Addr} {c:Nat} {xs:List α} (hg:Good s) (h:SRW s w A c xs) (k:Up w w'):SRW s w' A c xs :=
 (h.keep hg (k.keeps (Nat.le_refl _))).wide hg (Nat.le_refl _) k.size
section
variable {w:World} {lo hi:Nat} {A:Option Addr} {c:Nat}
theorem SR.len_le {α:Type} {s:Sh α} {xs:List α} (h:SR s w lo hi A c xs):xs.length≤9223372036854775807:=by have:=h.1;have h2:=h.2.1;unfold maxLen at h2;omega
theorem SR.at_ {α:Type} {s:Sh α} {xs:List α} (h:SR s w lo hi A c xs) {i:Nat} (hi':i<xs.length) :
 ∃g off cs,A=some ⟨g,off,none⟩∧lo≤g∧g<hi∧ElemAt w g off s.size i cs∧s.rep w lo hi cs xs[i]:=by
 obtain ⟨g,off,hA,h1,h2,h3⟩:=h.2.2 (by omega)
 obtain ⟨cs,hc,hr⟩:=h3 i hi'
 exact ⟨g,off,cs,hA,h1,h2,hc,hr⟩
theorem SR.at_S {xs:List ByteArray} (h:SR shS w lo hi A c xs) {i:Nat} (hi':i<xs.length) :
 ∃g off,A=some ⟨g,off,none⟩∧lo≤g∧g<hi∧w.cell? ⟨g,off+i,none⟩=some (.string xs[i])∧xs[i].size≤9223372036854775807:=by
 obtain ⟨g,off,cs,hA,h1,h2,hc,rfl,hr⟩:=h.at_ hi'
 have:=hc.2 0 (by decide)
 exact ⟨g,off,hA,h1,h2,by simpa [shS] using this,by unfold maxLen at hr;omega⟩
theorem SR.at_I {xs:List Int} (h:SR shI w lo hi A c xs) {i:Nat} (hi':i<xs.length) :
 ∃g off,A=some ⟨g,off,none⟩∧lo≤g∧g<hi∧w.cell? ⟨g,off+i,none⟩=some (.int .i64 xs[i])∧-9223372036854775808≤xs[i]∧xs[i]≤9223372036854775807:=by
 obtain ⟨g,off,cs,hA,h1,h2,hc,rfl,hr⟩:=h.at_ hi'
 have:=hc.2 0 (by decide)
 exact ⟨g,off,hA,h1,h2,by simpa [shI] using this,hr⟩
theorem SR.nil {α:Type} {s:Sh α} (w:World) (lo hi:Nat):SR s w lo hi none 0 []:=⟨Nat.le_refl _,Nat.zero_le _,fun h=>absurd h (by simp)⟩
theorem SO.nil {α:Type} {s:Sh α} (w:World) (lo hi:Nat):SO s w lo hi none 0 [] []:=⟨Nat.le_refl _,Nat.zero_le _,.inl ⟨rfl,rfl,rfl⟩⟩
end
/-! ### From the row's reading to shapes -/
structure Fits {α:Type} (s:Sh α) (P:Program) (t:TypeId):Prop where
 one:P.cellsOf t=s.size
 two:∀{H:Type} {enc:TypeId×Value→H} {w:World} {base:Nat} {spare:Nat→Bool} {held:Bool} {fuel:Nat} {cs:List Value} {x:DataW H×List MemPlace},
  DataW.trod enc P w base spare held fuel t cs=some x→∃d:α,s.rep w 0 w.heap.size cs d
theorem fits_I {P:Program} {t:TypeId} (h:P.underlying t=some (.int .i64)) (hc:P.cellsOf t=1):Fits shI P t :=
 ⟨hc,fun hx=>by
  obtain ⟨n,rfl,_,hw⟩:=DataW.trod_int h hx
  refine ⟨n,rfl,?_⟩
  simp [Lit.wf,IntKind.min,IntKind.max,IntKind.signed,IntKind.bits] at hw
  omega⟩
theorem fits_B {P:Program} {t:TypeId} (h:P.underlying t=some .bool) (hc:P.cellsOf t=1):Fits shB P t :=
 ⟨hc,fun hx=>by obtain ⟨n,rfl,_⟩:=DataW.trod_bool h hx;exact ⟨n,rfl⟩⟩
theorem fits_S {P:Program} {t:TypeId} (h:P.underlying t=some .string) (hc:P.cellsOf t=1):Fits shS P t :=
 ⟨hc,fun hx=>by obtain ⟨s,rfl,_,hs⟩:=DataW.trod_string h hx;exact ⟨s,rfl,hs⟩⟩
theorem cell_lt {w:World} {a:Addr} {v:Value} (h:w.cell? a=some v):a.block<w.heap.size:=by
 rcases Nat.lt_or_ge a.block w.heap.size with hlt | hge
 ·exact hlt
 ·unfold World.cell? at h;rw [Array.getElem?_eq_none hge] at h;cases h
theorem fits_L {α:Type} {s:Sh α} (hg:Good s) {P:Program} {t e:TypeId} (h:P.underlying t=some (.slice e)) (hc:P.cellsOf t=1) (hf:Fits s P e):Fits (shL s) P t:=by
 refine ⟨hc,fun {H enc w base spare held fuel cs x} hx=>?_⟩
 rcases open_slice h hx with ⟨rfl,_⟩ | ⟨a,len,cap,m,n,D,Pl,rfl,_,hl,hm,hmm,hxe,hi⟩
 ·exact ⟨[],none,0,rfl,SR.nil _ _ _⟩
 ·have hlm:len≤m:=by rw [hmm];split <;> omega
  have hE:∀i,i<len→∃cs' d,cs'.length=s.size∧(∀j,j<s.size→w.cell? ((a.add (i*s.size)).add j)=cs'[j]?)∧s.rep w 0 w.heap.size cs' d:=by
   intro i hil
   obtain ⟨cs',h1,h2⟩:=hi i (by omega)
   obtain ⟨d,hd⟩:=hf.two h2
   obtain ⟨_,hlen,hcell⟩:=World.cells?_some h1
   rw [hf.one] at hlen hcell
   exact ⟨cs',d,hlen,hcell,hd⟩
  have hx:∃ds:List α,ds.length=len∧∀i (hi:i<ds.length),∃cs',cs'.length=s.size∧(∀j,j<s.size→w.cell? ((a.add (i*s.size)).add j)=cs'[j]?)∧s.rep w 0 w.heap.size cs' ds[i]:=by
   clear hi hl hm hmm hlm hx hxe
   revert hE
   induction len with
   | zero=>exact fun _=>⟨[],rfl,fun i hi=>absurd hi (by simp)⟩
   | succ k ih =>
    intro hE
    obtain ⟨ds,hd,hds⟩:=ih (fun i hi=>hE i (by omega))
    obtain ⟨cs',d,h1,h2,h3⟩:=hE k (by omega)
    refine ⟨ds++[d],by simp [hd],fun i hi=>?_⟩
    by_cases hik:i<ds.length
    ·obtain ⟨c1,e1,e2,e3⟩:=hds i hik
     exact ⟨c1,e1,e2,by rw [List.getElem_append_left hik];exact e3⟩
    ·have:i=k:=by simp at hi;omega
     subst this
     exact ⟨cs',h1,h2,by rw [List.getElem_append_right (by omega)];simpa using h3⟩
  obtain ⟨ds,hdl,hds⟩:=hx
  subst hdl
  refine ⟨ds,some a,cap,rfl,hl,hm,fun hp=>?_⟩
  obtain ⟨b,off,spot⟩:=a
  obtain ⟨cs0,hl0,hc0,_⟩:=hds 0 hp
  have h00:=hc0 0 hg.pos
  have hsome:∃v,cs0[0]?=some v:=⟨cs0[0]'(by rw [hl0];exact hg.pos),List.getElem?_eq_getElem _⟩
  obtain ⟨v,hv⟩:=hsome
  rw [hv] at h00
  have hsp:spot=none:=by simpa [Addr.add] using World.cell?_spot h00
  subst hsp
  have hlt:b<w.heap.size:=by simpa [Addr.add] using cell_lt h00
  refine ⟨b,off,rfl,Nat.zero_le _,hlt,fun i hi=>?_⟩
  obtain ⟨cs',h1,h2,h3⟩:=hds i hi
  refine ⟨cs',⟨h1,fun j hj=>?_⟩,h3⟩
  rw [←h2 j hj]
  congr 1
  unfold Addr.add
  by_cases e1:i*s.size=0 <;> by_cases e2:j=0 <;> simp [e1,e2,Nat.add_assoc]
structure FitsF {α:Type} (s:Sh α) (P:Program) (fs:List Field) (off:Nat):Prop where
 out:∀{H:Type} {enc:TypeId×Value→H} {w:World} {base:Nat} {spare:Nat→Bool} {held:Bool} {fuel:Nat} {cs:List Value},cs.length=off+s.size →
  (∀f∈fs,∃x,DataW.trod enc P w base spare held fuel f.type ((cs.drop f.offset).take (P.cellsOf f.type))=some x)→∃d:α,s.rep w 0 w.heap.size (cs.drop off) d
theorem fitsF_one {α:Type} {s:Sh α} {P:Program} {f:Field} {off:Nat} (hf:Fits s P f.type) (ho:f.offset=off):FitsF s P [f] off:=by
 refine ⟨fun {H enc w base spare held fuel cs} hlen hall=>?_⟩
 obtain ⟨x,hx⟩:=hall f (by simp)
 obtain ⟨d,hd⟩:=hf.two hx
 rw [ho,hf.one,List.take_of_length_le (by simp;omega)] at hd
 exact ⟨d,hd⟩
theorem fitsF_cons {α β:Type} {a:Sh α} {b:Sh β} {P:Program} {f:Field} {fs:List Field} {off:Nat} (hf:Fits a P f.type) (ho:f.offset=off) (hr:FitsF b P fs (off+a.size)):FitsF (shP a b) P (f::fs) off:=by
 refine ⟨fun {H enc w base spare held fuel cs} hlen hall=>?_⟩
 obtain ⟨x,hx⟩:=hall f (by simp)
 obtain ⟨d,hd⟩:=hf.two hx
 rw [ho,hf.one] at hd
 obtain ⟨e,he⟩:=hr.out (by rw [hlen];show off+(a.size+b.size)=_;omega) (fun g hg=>hall g (List.mem_cons_of_mem _ hg))
 exact ⟨(d,e),hd,by rw [List.drop_drop];exact he⟩
theorem fits_struct {α:Type} {s:Sh α} {P:Program} {t:TypeId} {fs:Array Field} (h:P.underlying t=some (.struct fs)) (hc:P.cellsOf t=s.size) (hf:FitsF s P fs.toList 0):Fits s P t:=by
 refine ⟨hc,fun {H enc w base spare held fuel cs x} hx=>?_⟩
 obtain ⟨xs,n,_,_,hlen,hxl,hall⟩:=DataW.trod_struct h hx
 have:=hf.out (enc:=enc) (w:=w) (base:=base) (spare:=spare) (held:=held) (fuel:=n) (cs:=cs) (by rw [hlen,hc,Nat.zero_add]) (fun f hfm=>by
  obtain ⟨i,hi,rfl⟩:=List.getElem_of_mem hfm
  have hi':i<fs.size:=by simpa using hi
  have h1:=hall i (fs.toList[i]) (by simp [hi'])
  rw [List.getElem?_eq_getElem (by omega)] at h1
  exact ⟨_,h1⟩)
 simpa using this
/-! ### Structs -/
theorem open_P {α β:Type} {a:Sh α} {b:Sh β} {w:World} {lo hi:Nat} {cs:List Value} {x:α×β} (h:(shP a b).rep w lo hi cs x) :
 ∃c1 c2,cs=c1++c2∧a.rep w lo hi c1 x.1∧b.rep w lo hi c2 x.2:=⟨_,_,(List.take_append_drop _ _).symm,h.1,h.2⟩
theorem mk_P {α β:Type} {a:Sh α} {b:Sh β} (ha:Good a) {w:World} {lo hi:Nat} {c1 c2:List Value} {x:α×β} (h1:a.rep w lo hi c1 x.1) (h2:b.rep w lo hi c2 x.2):(shP a b).rep w lo hi (c1++c2) x:=by
 have:=ha.len h1
 exact ⟨by rw [List.take_left' this];exact h1,by rw [List.drop_left' this];exact h2⟩
theorem openO_P {α β:Type} {a:Sh α} {b:Sh β} {w:World} {lo hi:Nat} {cs:List Value} {x:α×β} {bl:List Nat} (h:(shP a b).own w lo hi cs x bl) :
 ∃c1 c2 b1 b2,cs=c1++c2∧bl=b1++b2∧a.own w lo hi c1 x.1 b1∧b.own w lo hi c2 x.2 b2:=by
 obtain ⟨b1,b2,e,h1,h2⟩:=h
 exact ⟨_,_,b1,b2,(List.take_append_drop _ _).symm,e,h1,h2⟩
theorem mkO_P {α β:Type} {a:Sh α} {b:Sh β} (ha:Good a) {w:World} {lo hi:Nat} {c1 c2:List Value} {x:α×β} {b1 b2:List Nat} (h1:a.own w lo hi c1 x.1 b1) (h2:b.own w lo hi c2 x.2 b2):(shP a b).own w lo hi (c1++c2) x (b1++b2):=by
 have:=ha.len (ha.own_rep h1)
 exact ⟨b1,b2,rfl,by rw [List.take_left' this];exact h1,by rw [List.drop_left' this];exact h2⟩
abbrev I64 (n:Int):Prop:=-9223372036854775808≤n∧n≤9223372036854775807
def AV {α:Type} (s:Sh α) (w:World) (v:Value) (d:α):Prop:=∃cs,v=.agg cs.toArray∧s.rep w 0 w.heap.size cs d
theorem rep_up {α:Type} {s:Sh α} (hg:Good s) {w w':World} {cs:List Value} {d:α} (h:s.rep w 0 w.heap.size cs d) (k:Up w w'):s.rep w' 0 w'.heap.size cs d :=
 hg.wide (hg.keep h (k.keeps (Nat.le_refl _))) (Nat.le_refl _) k.size
theorem AV.up {α:Type} {s:Sh α} (hg:Good s) {w w':World} {v:Value} {d:α} (h:AV s w v d) (k:Up w w'):AV s w' v d:=by
 obtain ⟨cs,e,h⟩:=h
 exact ⟨cs,e,rep_up hg h k⟩
/-! ### Sums over the beginning of a list -/
def psum {α:Type} (f:α→Nat) (xs:List α) (k:Nat):Nat:=((xs.take k).map f).sum
theorem psum_zero {α:Type} (f:α→Nat) (xs:List α):psum f xs 0=0:=by simp [psum]
theorem psum_succ {α:Type} (f:α→Nat) (xs:List α) (k:Nat) (h:k<xs.length):psum f xs (k+1)=psum f xs k+f xs[k]:=by
 unfold psum
 rw [List.take_succ_eq_append_getElem h,List.map_append,List.sum_append]
 simp
theorem psum_all {α:Type} (f:α→Nat) (xs:List α):psum f xs xs.length=(xs.map f).sum:=by simp [psum]
theorem psum_le {α:Type} (f:α→Nat) (xs:List α) (k:Nat):psum f xs k≤(xs.map f).sum:=by
 have:(xs.map f).sum=psum f xs k+((xs.drop k).map f).sum:=by
  unfold psum
  rw [←List.sum_append,←List.map_append,List.take_append_drop]
 omega
def szR (left:Int) (T:Nat):Int:=if (T:Int)≤left then left-T else -1
theorem szR_yes {left:Int} {T:Nat} (h:(T:Int)≤left):szR left T=left-T:=if_pos h
theorem szR_no {left:Int} {T:Nat} (h:left<T):szR left T=-1:=if_neg (by omega)
def SzP (left:Int) (T:Nat) (w:World) (e:Ending) (w':World):Prop:=e=.returned (.int .i64 (szR left T))∧Up w w'
theorem SzP.yes {left:Int} {T:Nat} {w w':World} {n:Int} (h:(T:Int)≤left) (hn:n=left-T) (u:Up w w'):SzP left T w (.returned (.int .i64 n)) w':=⟨by rw [szR_yes h,hn],u⟩
theorem SzP.no {left:Int} {T:Nat} {w w':World} (h:left<T) (u:Up w w'):SzP left T w (.returned (.int .i64 (-1))) w':=⟨by rw [szR_no h],u⟩
/-! ### Equality -/
def EqP (p:Prop) (w:World) (e:Ending) (w':World):Prop:=∃b:Bool,e=.returned (.bool b)∧(b=true↔p)∧Up w w'
theorem EqP.t {p:Prop} {w w':World} (h:p) (u:Up w w'):EqP p w (.returned (.bool true)) w':=⟨true,rfl,by simp [h],u⟩
theorem EqP.f {p:Prop} {w w':World} (h:¬p) (u:Up w w'):EqP p w (.returned (.bool false)) w':=⟨false,rfl,by simp [h],u⟩
theorem eqb_cases {b:Bool} {p:Prop} (h:b=true↔p):(b=false∧¬p)∨(b=true∧p):=by
 cases b
 ·exact .inl ⟨rfl,fun hp=>absurd (h.2 hp) (by simp)⟩
 ·exact .inr ⟨rfl,h.1 rfl⟩
theorem str_beq (a b:ByteArray):(a.toList==b.toList)=decide (a=b):=by
 by_cases h:a=b
 ·subst h;simp
 ·have:¬a.toList=b.toList:=fun e=>h (by
   have ha:a=⟨a.toList.toArray⟩:=by rw [ByteArray.toList_eq]
   have hb:b=⟨b.toList.toArray⟩:=by rw [ByteArray.toList_eq]
   rw [ha,hb,e])
  simp [h,this]
theorem take_snoc_eq {α:Type} {xs ys:List α} {k:Nat} (h:xs.take k=ys.take k) (h1:k<xs.length) (h2:k<ys.length) (e:xs[k]=ys[k]):xs.take (k+1)=ys.take (k+1):=by
 rw [List.take_succ_eq_append_getElem h1,List.take_succ_eq_append_getElem h2,h,e]
theorem take_all_eq {α:Type} {xs ys:List α} {k:Nat} (h:xs.take k=ys.take k) (h1:xs.length≤k) (h2:ys.length≤k):xs=ys:=by
 rwa [List.take_of_length_le h1,List.take_of_length_le h2] at h
theorem ne_of_at {α:Type} {xs ys:List α} {k:Nat} (h1:k<xs.length) (h2:k<ys.length) (e:xs[k]≠ys[k]):xs≠ys:=fun h=>by subst h;exact e rfl
theorem ne_of_len {α:Type} {xs ys:List α} (h:xs.length≠ys.length):xs≠ys:=fun e=>h (by rw [e])
end Go.Proofs.YtojmcmghmnfjeaaGreatDoor
namespace Go.Proofs.YtojmcmghmnfjeaaGreatDoor
open Go.RowKit
def inB (n lo hi:Int):Bool:=decide (lo≤n)&&decide (n≤hi)
theorem inB_t {n lo hi:Int}:inB n lo hi=true↔lo≤n∧n≤hi:=by simp [inB]
theorem inB_f {n lo hi:Int}:inB n lo hi=false↔¬(lo≤n∧n≤hi):=by rw [←inB_t];simp
theorem within_any (n lo hi:Int) (w:World) :
 Calls Tryz.prog 41 #[.int .i64 n,.int .i64 lo,.int .i64 hi] w fun e w'=>e=.returned (.bool (inB n lo hi))∧w=w':=by
 unfold inB
 by_cases h1:lo≤n
 ·go_enter Tryz.func41,Tryz.ntmps41
  go_wp2
  go_ret
  exact ⟨by simp [h1],rfl⟩
 ·have h2:decide (lo≤n)=false:=by simpa using h1
  go_enter Tryz.func41,Tryz.ntmps41
  go_wp2
  go_ret
  exact ⟨by simp,rfl⟩
theorem in_any (n lo hi:Int) (w:World) :
 Calls Tryz.prog 27 #[.int .i64 n,.int .i64 lo,.int .i64 hi] w fun e w'=>e=.returned (.bool (inB n lo hi))∧w=w':=by
 unfold inB
 by_cases h1:lo≤n
 ·go_enter Tryz.func27,Tryz.ntmps27
  go_wp2
  go_ret
  exact ⟨by simp [h1],rfl⟩
 ·have h2:decide (lo≤n)=false:=by simpa using h1
  go_enter Tryz.func27,Tryz.ntmps27
  go_wp2
  go_ret
  exact ⟨by simp,rfl⟩
def Bk (w:World) (g:Nat) (t:TypeId) (C:Array Value):Prop:=w.heap[g]?=some (.cells C t (0,0))
section
variable {w w':World} {g:Nat} {t:TypeId} {C:Array Value}
theorem Bk.lt (h:Bk w g t C):g<w.heap.size:=by
 rcases Nat.lt_or_ge g w.heap.size with hlt | hge
 ·exact hlt
 ·unfold Bk at h;rw [Array.getElem?_eq_none hge] at h;cases h
theorem Bk.cell (h:Bk w g t C) (i:Nat):w.cell? ⟨g,i,none⟩=C[i]?:=by unfold Bk at h;simp [World.cell?,h]
theorem Bk.frozen (h:Bk w g t C) (i:Nat):w.frozen? ⟨g,i,none⟩=false:=by unfold Bk at h;simp [World.frozen?,h]
theorem Bk.new (w:World) (t:TypeId) (C:Array Value):Bk (w.alloc (.cells C t)) w.heap.size t C:=heap_alloc_new w _
theorem Bk.drewN (h:Bk w g t C) (n:Nat):Bk (w.drewN n) g t C:=h
theorem Bk.drew (h:Bk w g t C):Bk w.drew g t C:=h
theorem Bk.alloc (h:Bk w g t C) (o:Obj):Bk (w.alloc o) g t C:=(Below.heap_alloc w o g h.lt).trans h
theorem Bk.up (h:Bk w g t C) (u:Up w w'):Bk w' g t C:=(u.block g h.lt).trans h
theorem Bk.set (h:Bk w g t C) (i:Nat) (u:Value):Bk (w.setCell ⟨g,i,none⟩ u) g t (C.setIfInBounds i u):=by
 unfold Bk at h ⊢
 simp [World.setCell,Array.getElem?_modify,h]
theorem Bk.far (h:Bk w g t C) {p:Addr} (hp:g≠p.block) (u:Value):Bk (w.setCell p u) g t C:=(Below.heap_setCell w p u g hp).trans h
end
structure But (g:Nat) (w w':World):Prop where
 os:w'.os=w.os
 tape:w'.tape=w.tape
 output:w'.output=w.output
 size:w'.heap.size=w.heap.size
 block:∀k,k≠g→w'.heap[k]?=w.heap[k]?
theorem But.set (w:World) (g i:Nat) (u:Value):But g w (w.setCell ⟨g,i,none⟩ u) :=
 ⟨rfl,rfl,rfl,by simp [World.setCell],fun k hk=>Below.heap_setCell _ _ _ _ hk⟩
theorem But.refl (g:Nat) (w:World):But g w w:=⟨rfl,rfl,rfl,rfl,fun _ _=>rfl⟩
theorem But.trans {g:Nat} {a b c:World} (h:But g a b) (k:But g b c):But g a c :=
 ⟨k.os.trans h.os,k.tape.trans h.tape,k.output.trans h.output,k.size.trans h.size,fun i hi=>(k.block i hi).trans (h.block i hi)⟩
theorem Up.but {a w w':World} {g:Nat} (h:Up a w) (k:But g w w') (hg:a.heap.size≤g):Up a w' :=
 ⟨k.os.trans h.os,k.tape.trans h.tape,k.output.trans h.output,by rw [k.size];exact h.size,fun i hi=>(k.block i (by omega)).trans (h.block i hi)⟩
def putCells (C:Array Value) (p:Nat):List Value→Array Value
 | []=>C
 | c::cs=>putCells (C.setIfInBounds p c) (p+1) cs
theorem putCells_size (cs:List Value):∀(C:Array Value) (p:Nat),(putCells C p cs).size=C.size:=by
 induction cs with
 | nil=>intro C p;rfl
 | cons c cs ih=>intro C p;unfold putCells;rw [ih];simp
theorem putCells_far (cs:List Value):∀(C:Array Value) (p q:Nat),(q<p∨p+cs.length≤q)→(putCells C p cs)[q]?=C[q]?:=by
 induction cs with
 | nil=>intro C p q _;rfl
 | cons c cs ih =>
  intro C p q h
  unfold putCells
  rw [ih _ _ _ (by simp at h;omega),Array.getElem?_setIfInBounds_ne (by simp at h;omega)]
theorem putCells_at (cs:List Value):∀(C:Array Value) (p j:Nat),p+cs.length≤C.size→j<cs.length→(putCells C p cs)[p+j]?=cs[j]?:=by
 induction cs with
 | nil=>intro C p j _ h;simp at h
 | cons c cs ih =>
  intro C p j h hj
  unfold putCells
  cases j with
  | zero =>
   rw [putCells_far _ _ _ _ (by omega)]
   simp at h
   simp [Array.getElem?_setIfInBounds]
   omega
  | succ j =>
   have h1:=ih (C.setIfInBounds p c) (p+1) j (by simp at h ⊢;omega) (by simp at hj;omega)
   rw [show p+(j+1)=p+1+j by omega,h1]
   simp
def Bld {α:Type} (s:Sh α) (lo:Nat) (w:World) (g:Nat) (t:TypeId) (C:Array Value) (n:Nat) (xs:List α) (k:Nat):Prop :=
 Bk w g t C∧C.size=n*s.size∧lo≤g∧∃bls:List (List Nat),bls.length=k∧(g::bls.flatten).Nodup∧(∀b∈bls.flatten,lo≤b∧b<w.heap.size) ∧
  ∀i,i<k→∃cs b x,bls[i]?=some b∧xs[i]?=some x∧cs.length=s.size∧(∀j,j<s.size→C[i*s.size+j]?=cs[j]?)∧s.own w lo w.heap.size cs x b
section
variable {α:Type} {s:Sh α} {lo:Nat} {w w':World} {g:Nat} {t:TypeId} {C:Array Value} {n:Nat} {xs:List α} {k:Nat}
theorem Bld.start (hlo:lo≤g) (h:Bk w g t C) (hC:C.size=n*s.size):Bld s lo w g t C n xs 0 :=
 ⟨h,hC,hlo,[],rfl,by simp,by simp,fun i h=>absurd h (by omega)⟩
theorem Bld.up (hg:Good s) (h:Bld s lo w g t C n xs k) (u:Up w w'):Bld s lo w' g t C n xs k:=by
 obtain ⟨h1,h2,h3,bls,h4,h5,h6,h7⟩:=h
 refine ⟨h1.up u,h2,h3,bls,h4,h5,fun b hb=>⟨(h6 b hb).1,Nat.lt_of_lt_of_le (h6 b hb).2 u.size⟩,fun i hi=>?_⟩
 obtain ⟨cs,b,x,e1,e2,e3,e4,e5⟩:=h7 i hi
 exact ⟨cs,b,x,e1,e2,e3,e4,hg.own_wide (hg.own_keep e5 (fun c hc=>u.block c (hg.own_in e5 c hc).2)) (Nat.le_refl _) u.size⟩
theorem Bld.push (hg:Good s) {w0:World} (h0:Bld s lo w0 g t C n xs k) (u:Up w0 w) {cs:List Value} {x:α} {b:List Nat} (ho:s.own w w0.heap.size w.heap.size cs x b) (hb:b.Nodup) (hx:xs[k]?=some x) (hk:k<n)
 (hw:But g w w') (hbk:Bk w' g t (putCells C (k*s.size) cs)):Bld s lo w' g t (putCells C (k*s.size) cs) n xs (k+1):=by
 have h:=h0.up hg u
 obtain ⟨h1,h2,h3,bls,h4,h5,h6,h7⟩:=h
 obtain ⟨g1,_,_,bls0,g4,g5,g6,g7⟩:=h0
 have hlen:=hg.len (hg.own_rep ho)
 have hglt:g<w0.heap.size:=g1.lt
 have hmem:∀c∈bls.flatten,c≠g:=by
  intro c hc e
  subst e
  simp at h5
  obtain ⟨l,hl,hcl⟩:=List.mem_flatten.1 hc
  exact h5.1 l hl hcl
 have hin:=hg.own_in ho
 have hmul:(k+1)*s.size≤n*s.size:=Nat.mul_le_mul_right _ hk
 have hmul':k*s.size+s.size≤n*s.size:=by rw [Nat.succ_mul] at hmul;exact hmul
 -- the blocks of the elder elements lie below w0
 have hold:∀c∈bls0.flatten,c<w0.heap.size:=fun c hc=>(g6 c hc).2
 refine ⟨hbk,by rw [putCells_size];exact h2,h3,bls0++[b],by simp [g4],?_,?_,?_⟩
 ·have g5':=g5
  simp only [List.flatten_append,List.flatten_cons,List.flatten_nil,List.append_nil]
  rw [←List.cons_append,List.nodup_append]
  refine ⟨g5,hb,fun a ha c hc e=>?_⟩
  subst e
  have hc':=(hin a hc).1
  rcases List.mem_cons.1 ha with rfl | ha
  ·omega
  ·have:=hold a ha;omega
 ·intro c hc
  simp only [List.flatten_append,List.flatten_cons,List.flatten_nil,List.append_nil,List.mem_append] at hc
  rw [hw.size]
  rcases hc with hc | hc
  ·have:=hold c hc;exact ⟨(g6 c hc).1,Nat.lt_of_lt_of_le this u.size⟩
  ·have:=hin c hc;omega
 ·intro i hi
  by_cases hik:i<k
  ·obtain ⟨cs',b',x',e1,e2,e3,e4,e5⟩:=g7 i hik
   refine ⟨cs',b',x',by rw [List.getElem?_append_left (by omega)];exact e1,e2,e3,fun j hj=>?_,?_⟩
   ·have:(i+1)*s.size≤k*s.size:=Nat.mul_le_mul_right _ hik
    rw [Nat.succ_mul] at this
    rw [putCells_far _ _ _ _ (by omega)]
    exact e4 j hj
   ·have hbm:∀c∈b',c∈bls0.flatten:=fun c hc=>List.mem_flatten.2 ⟨b',List.mem_of_getElem? e1,hc⟩
    have e6:=hg.own_keep (w':=w) e5 (fun c hc=>u.block c (hold c (hbm c hc)))
    have e7:=hg.own_keep (w':=w') e6 (fun c hc=>hw.block c (fun e=>by
     subst e
     simp at g5
     obtain ⟨l,hl,hcl⟩:=List.mem_flatten.1 (hbm c hc)
     exact g5.1 l hl hcl))
    exact hg.own_wide e7 (Nat.le_refl _) (by rw [hw.size];exact u.size)
  ·obtain rfl:i=k:=by omega
   refine ⟨cs,b,x,by rw [List.getElem?_append_right (by omega)];simp [g4],hx,hlen,fun j hj=>?_,?_⟩
   ·exact putCells_at cs C _ j (by rw [hlen,h2];exact hmul') (by rw [hlen];exact hj)
   ·have e7:=hg.own_keep (w':=w') ho (fun c hc=>hw.block c (fun e=>by
     subst e
     have:=(hin c hc).1
     omega))
    exact hg.own_wide e7 (by omega) (by rw [hw.size];exact Nat.le_refl _)
theorem Bld.done {c:Nat} (h:Bld s lo w g t C n xs k) (hk:k=xs.length) (h1:xs.length≤c) (h2:c≤maxLen) (h3:c≤n):∃bl,SO s w lo w.heap.size (some ⟨g,0,none⟩) c xs bl∧bl.Nodup:=by
 subst hk
 obtain ⟨g1,gn,g3,bls,g4,g5,g6,g7⟩:=h
 refine ⟨g::bls.flatten,⟨h1,h2,.inr ⟨g,0,C,t,bls,rfl,g3,g1.lt,g1,by rw [gn,Nat.zero_add];exact Nat.mul_le_mul_right _ h3,rfl,g4,fun i hi=>?_⟩⟩,g5⟩
 obtain ⟨cs,b,x,e1,e2,e3,e4,e5⟩:=g7 i hi
 rw [List.getElem?_eq_getElem hi] at e2
 injection e2 with e2
 subst e2
 exact ⟨cs,b,e1,e3,fun j hj=>by rw [Nat.zero_add];exact e4 j hj,e5⟩
end
/-! ### What a call hands back in new memory -/
def ToL {α:Type} (s:Sh α) (xs:List α) (w:World) (e:Ending) (w':World):Prop :=
 ∃A c bl,e=.returned (.slice A xs.length c)∧SO s w' w.heap.size w'.heap.size A c xs bl∧bl.Nodup∧Up w w'
def ToV {α:Type} (s:Sh α) (x:α) (w:World) (e:Ending) (w':World):Prop :=
 ∃cs bl,e=.returned (.agg cs.toArray)∧s.own w' w.heap.size w'.heap.size cs x bl∧bl.Nodup∧Up w w'
theorem run_make_rows {P:Program} (t e:TypeId) (i:TypeInfo) (z:Value) (ht:P.underlying t=some (.slice e)) (hi:P.info? e=some i) (hz:i.zero=some z)
 (n:Nat) (hbytes:i.bytes*n≤281474976710656) (h63:n≤9223372036854775807) (w:World) :
 (Instr.makeSlice t (.int .i64 (n:Int)) (.int .i64 (n:Int))).run P w=.ok (.slice (some ⟨w.heap.size,0,none⟩) n n) (w.alloc (.cells (madeCells z.cells (n*i.size)) e)):=by
 have hb:(i.bytes:Int)*(n:Int)≤281474976710656:=by
  have h:((i.bytes*n:Nat):Int)≤281474976710656:=by omega
  rwa [Int.natCast_mul] at h
 have hr:=run_make (P:=P) w t e i z ht hi hz .i64 .i64 n n (by omega) (by omega) hb (by omega)
 simp only [Int.toNat_natCast] at hr
 exact hr
def setCells (w:World) (g p:Nat):List Value→World
 | []=>w
 | c::cs=>setCells (w.setCell ⟨g,p,none⟩ c) g (p+1) cs
theorem Bk.sets {g:Nat} {t:TypeId} (cs:List Value):∀{w:World} {C:Array Value} (_:Bk w g t C) (p:Nat),Bk (setCells w g p cs) g t (putCells C p cs):=by
 induction cs with
 | nil=>intro w C h p;exact h
 | cons c cs ih=>intro w C h p;exact ih (h.set p c) (p+1)
theorem But.sets {g:Nat} (cs:List Value):∀(w:World) (p:Nat),But g w (setCells w g p cs):=by
 induction cs with
 | nil=>intro w p;exact But.refl _ _
 | cons c cs ih=>intro w p;exact (But.set w g p c).trans (ih _ _)
theorem Up.sets {a w:World} {g:Nat} (h:Up a w) (hg:a.heap.size≤g) (p:Nat) (cs:List Value):Up a (setCells w g p cs):=h.but (But.sets cs w p) hg
theorem SO.up {α:Type} {s:Sh α} (hg:Good s) {w w':World} {lo:Nat} {A:Option Addr} {c:Nat} {xs:List α} {bl:List Nat} (h:SO s w lo w.heap.size A c xs bl) (u:Up w w'):SO s w' lo w'.heap.size A c xs bl :=
 (h.keep hg (fun b hb=>u.block b (h.in_ hg b hb).2)).wide hg (Nat.le_refl _) u.size
theorem SO.set {α:Type} {s:Sh α} (hg:Good s) {w:World} {lo:Nat} {A:Option Addr} {c:Nat} {xs:List α} {bl:List Nat} (h:SO s w lo w.heap.size A c xs bl) (g p:Nat) (cs:List Value) (hlt:g<lo) :
 SO s (setCells w g p cs) lo (setCells w g p cs).heap.size A c xs bl:=by
 have hb:=But.sets (g:=g) cs w p
 rw [hb.size]
 exact h.keep hg (fun b hb'=>hb.block b (by have:=(h.in_ hg b hb').1;omega))
theorem own_up {α:Type} {s:Sh α} (hg:Good s) {w w':World} {lo:Nat} {cs:List Value} {x:α} {bl:List Nat} (h:s.own w lo w.heap.size cs x bl) (u:Up w w'):s.own w' lo w'.heap.size cs x bl :=
 hg.own_wide (hg.own_keep h (fun b hb=>u.block b (hg.own_in h b hb).2)) (Nat.le_refl _) u.size
theorem own_set {α:Type} {s:Sh α} (hg:Good s) {w:World} {lo:Nat} {ds:List Value} {x:α} {bl:List Nat} (h:s.own w lo w.heap.size ds x bl) (g p:Nat) (cs:List Value) (hlt:g<lo) :
 s.own (setCells w g p cs) lo (setCells w g p cs).heap.size ds x bl:=by
 have hb:=But.sets (g:=g) cs w p
 rw [hb.size]
 exact hg.own_keep h (fun b hb'=>hb.block b (by have:=(hg.own_in h b hb').1;omega))
theorem nodup_two {a b:List Nat} {m:Nat} (ha:a.Nodup) (hb:b.Nodup) (h1:∀x∈a,x<m) (h2:∀x∈b,m≤x):(a++b).Nodup:=by
 rw [List.nodup_append]
 exact ⟨ha,hb,fun x hx y hy e=>by subst e;have:=h1 x hx;have:=h2 x hy;omega⟩
theorem mem_lt_two {a b:List Nat} {m:Nat} (h1:∀x∈a,x<m) (h2:∀x∈b,x<m):∀x∈a++b,x<m:=fun x hx=>by
 rcases List.mem_append.1 hx with h | h
 ·exact h1 x h
 ·exact h2 x h
theorem setCells_size (w:World) (g p:Nat) (cs:List Value):(setCells w g p cs).heap.size=w.heap.size:=(But.sets cs w p).size
theorem sz_le {α:Type} (s:Sh α) (xs:List α) {k N:Nat} (h:k<xs.length) (hn:(shL s).sz xs≤N):s.sz xs[k]≤N:=by
 have h1:=psum_le s.sz xs (k+1)
 rw [psum_succ s.sz xs k h] at h1
 have h2:(shL s).sz xs=xs.length+(xs.map s.sz).sum:=rfl
 omega
theorem AV.of_own {α:Type} {s:Sh α} (hg:Good s) {w:World} {lo:Nat} {cs:List Value} {x:α} {bl:List Nat} (h:s.own w lo w.heap.size cs x bl):AV s w (.agg cs.toArray) x :=
 ⟨cs,rfl,hg.wide (hg.own_rep h) (Nat.zero_le _) (Nat.le_refl _)⟩
theorem SR.of_own {α:Type} {s:Sh α} (hg:Good s) {w:World} {lo:Nat} {A:Option Addr} {c:Nat} {xs:List α} {bl:List Nat} (h:SO s w lo w.heap.size A c xs bl):SRW s w A c xs :=
 (h.rep hg).wide hg (Nat.zero_le _) (Nat.le_refl _)
def RetV (v:Value) (w:World) (e:Ending) (w':World):Prop:=e=.returned v∧Up w w'
theorem ret_str {a b:ByteArray} {w w':World} (h:Hid (a=b)) (u:Up w w'):RetV (.string a) w (.returned (.string b)) w':=⟨by rw [h.out],u⟩
/-! ### A region that draws its order, whose operations read, or call what gives one value and lays at most new memory -/
structure UpT (w:World) where
 val:World
 up:Up w val
instance (w:World):Nonempty (UpT w):=⟨⟨w,Up.refl w⟩⟩
theorem wp_region_up {P:Program} {id:Nat} {Q:Exit→Act→World→Prop} {a:Act} {w:World} {l:List Oper} (hm:P.follows .mixedOrders=true) (hB:Region.lexB .any l.toArray=true)
 (h:wpQuiet P l.toArray (fun W=>∃t:UpT w,W=t.val) (fun a'=>∀w',(∃t:UpT w,w'=t.val)→Q .normal a' w') l a):(Code.region id l.toArray true).wp P Q a w :=
 wp_region_quiet (C:=fun W=>∃t:UpT w,W=t.val) hm hB ⟨⟨_,(Up.refl w).drew⟩,rfl⟩ (by simpa using h)
theorem up_call {P:Program} {f:FuncId} {args:Array Value} {w W:World} {v:Value} (h:Calls P f args W (RetV v W)) (hW:Up w W) :
 Calls P f args W fun e w''=>e=.returned v∧∃t:UpT w,w''=t.val :=
 h.mono fun _ w' ⟨he,hu⟩=>⟨he,⟨w',hW.trans hu⟩,rfl⟩
theorem up_bools {P:Program} {f:FuncId} {args:Array Value} {w W:World} {b c:Bool} (h:Calls P f args W fun e w'=>e=.returned (.bool b)∧W=w') (e:b=c) (hW:Up w W) :
 Calls P f args W fun e w''=>e=.returned (.bool c)∧∃t:UpT w,w''=t.val :=
 h.mono fun _ w' ⟨he,hu⟩=>⟨by rw [he,e],⟨w',by rw [←hu];exact hW⟩,rfl⟩
theorem cell_up {w:World} (t:UpT w) {a:Addr} {v:Value} (h:w.cell? a=some v):t.val.cell? a=some v:=(t.up.cell (cell_lt h)).trans h
end Go.Proofs.YtojmcmghmnfjeaaGreatDoor
namespace Go.Proofs.YtojmcmghmnfjeaaGreatDoor
open Go.RowKit
set_option linter.unusedVariables false
set_option linter.unusedSimpArgs false
structure Flat {α:Type} (s:Sh α):Prop where
 own:∀{w lo hi cs x},s.rep w lo hi cs x→∀w' lo' hi',s.own w' lo' hi' cs x []
theorem flat_I:Flat shI:=⟨fun h _ _ _=>⟨h,rfl⟩⟩
theorem flat_S:Flat shS:=⟨fun h _ _ _=>⟨h,rfl⟩⟩
section
variable {P:Program} {α:Type} {s:Sh α} {w:World}
theorem row_cells (hg:Good s) {g off:Nat} {lo hi:Nat} {xs:List α} (h:∀i (h:i<xs.length),∃cs,ElemAt w g off s.size i cs∧s.rep w lo hi cs xs[i]) :
 ∃ news:List Value,news.length=xs.length*s.size∧(∀j u,news[j]?=some u→w.cell? ((⟨g,off,none⟩:Addr).add j)=some u) ∧
  ∀i (h:i<xs.length),∃cs,cs.length=s.size∧(∀j,j<s.size→news[i*s.size+j]?=cs[j]?)∧s.rep w lo hi cs xs[i]:=by
 have hadd:∀j,(⟨g,off,none⟩:Addr).add j=⟨g,off+j,none⟩:=fun j=>by unfold Addr.add;split <;> simp_all
 have hp:=hg.pos
 have key:∀k,k<xs.length*s.size→∃u,w.cell? ⟨g,off+k,none⟩=some u:=by
  intro k hk
  have hi:k / s.size<xs.length:=(Nat.div_lt_iff_lt_mul hp).2 hk
  obtain ⟨cs,hc,hr⟩:=h _ hi
  have hj:k%s.size<s.size:=Nat.mod_lt _ hp
  have:=hc.2 _ hj
  rw [Nat.mul_comm,Nat.div_add_mod] at this
  rw [this,List.getElem?_eq_getElem (by rw [hc.1];exact hj)]
  exact ⟨_,rfl⟩
 refine ⟨(List.range (xs.length*s.size)).map (fun k=>(w.cell? ⟨g,off+k,none⟩).getD (.bool false)),by simp,fun j u hu=>?_,fun i hi=>?_⟩
 ·rw [List.getElem?_map] at hu
  by_cases hj:j<xs.length*s.size
  ·rw [List.getElem?_range hj] at hu
   obtain ⟨v,hv⟩:=key j hj
   rw [hadd,hv]
   simpa [hv] using hu
  ·rw [List.getElem?_eq_none (by simp;omega)] at hu
   cases hu
 ·obtain ⟨cs,hc,hr⟩:=h i hi
  refine ⟨cs,hc.1,fun j hj=>?_,hr⟩
  have hlt:i*s.size+j<xs.length*s.size:=by
   have:=Nat.mul_le_mul_right s.size (Nat.succ_le_of_lt hi)
   rw [Nat.succ_mul] at this
   omega
  rw [List.getElem?_map,List.getElem?_range hlt]
  have:=hc.2 j hj
  rw [List.getElem?_eq_getElem (by rw [hc.1];exact hj)] at this ⊢
  simp [this]
theorem run_app_new (hg:Good s) (hf:Flat s) (t ty e:TypeId) (i:TypeInfo) (z:Value) (ht:P.underlying t=some (.slice e)) (hi:P.info? e=some i) (hz:i.zero=some z) (hs:i.size=s.size) (hzs:z.cells.size=s.size)
 {b:Addr} {A:Option Addr} {c:Nat} {xs:List α} (h:SRW s w A c xs) (hb:xs.length*i.bytes≤140737488355328) :
 ∃D d bl w',(Builtin.append_ #[t,t] ty #[.slice (some b) 0 0,.slice A xs.length c]).run P w=.ok (.slice D xs.length d) w'∧SO s w' w.heap.size w'.heap.size D d xs bl∧bl.Nodup∧Up w w':=by
 have hc:=h.1
 have hm:=h.2.1
 rcases Nat.eq_zero_or_pos xs.length with h0 | hpos
 ·obtain rfl:=List.eq_nil_of_length_eq_zero h0
  refine ⟨some b,0,[],w,?_,⟨Nat.le_refl _,Nat.zero_le _,.inl ⟨rfl,rfl,rfl⟩⟩,by simp,Up.refl _⟩
  cases A <;> simp [Builtin.append_,run_underlying ht,sizeOf,typeInfo,hi,Builtin.lenOf,Builtin.firstCells,loadCells,loadCellsFrom,storeCells]
 ·obtain ⟨g,off,rfl,h1,h2,h3⟩:=h.2.2 hpos
  obtain ⟨news,hl,hn,hel⟩:=row_cells hg h3
  have hr:=run_append_grow (P:=P) w t ty e i z ht hi hz b 0 0 [] (by simp) (by simp) ⟨g,off,none⟩ xs.length c news (by rw [hs];exact hl) hn (by omega) (by unfold maxLen at hm;omega) (growslice_fits (by omega) (by simpa using hb))
  simp only [Nat.zero_add] at hr
  have hge:=grownCap_ge w xs.length 0 e
  have hcm:grownCap w xs.length 0 e≤maxLen:=grownCap_le_maxLen w xs.length 0 e (by omega)
  refine ⟨_,_,[w.heap.size],_,hr,⟨hge,hcm,.inr ⟨w.heap.size,0,_,e,List.replicate xs.length [],rfl,Nat.le_refl _,by simp,heap_alloc_new w.drew _,?_,by simp,by simp,fun k hk=>?_⟩⟩,by simp,(Up.refl w).drew.alloc _⟩
  ·simp only [Array.empty_append,Array.size_append,size_zeroCells,hzs,List.size_toArray,hl]
   rw [←Nat.add_mul,Nat.zero_add]
   exact Nat.mul_le_mul_right _ (by omega)
  obtain ⟨cs,hcl,hcj,hrep⟩:=hel k hk
  refine ⟨cs,[],by simp [hk],hcl,fun j hj=>?_,hf.own hrep _ _ _⟩
  have hlt:k*s.size+j<xs.length*s.size:=by
   have:=Nat.mul_le_mul_right s.size (Nat.succ_le_of_lt hk)
   rw [Nat.succ_mul] at this
   omega
  rw [Nat.zero_add,←hcj j hj]
  simp only [Array.empty_append,Array.getElem?_append]
  rw [if_pos (by simpa [hl] using hlt)]
  simp
theorem wp_app_new (hg:Good s) (hf:Flat s) {o:Oper} {a:Act} {K:Act→World→Prop} {Q:Exit→Act→World→Prop} (so x:Operand) (t e:TypeId)
 (ho:o.op=.call { callee:=.builtin .append,args:=#[so,x],argTypes:=#[t,t] }) (i:TypeInfo) (z:Value) (ht:P.underlying t=some (.slice e)) (hi:P.info? e=some i) (hz:i.zero=some z) (hs:i.size=s.size) (hzs:z.cells.size=s.size)
 {b:Addr} {A:Option Addr} {c:Nat} {xs:List α} (hv:a.eval so=.slice (some b) 0 0) (hx:a.eval x=.slice A xs.length c) (h:SRW s w A c xs) (hb:xs.length*i.bytes≤140737488355328)
 (k:∀D d bl w',SO s w' w.heap.size w'.heap.size D d xs bl→bl.Nodup→Up w w'→K (a.put o.dst (.slice D xs.length d)) w'):o.wp P a w K Q:=by
 obtain ⟨D,d,bl,w',hr,h1,h2,h3⟩:=run_app_new (P:=P) (w:=w) hg hf t o.type e i z ht hi hz hs hzs (b:=b) h hb
 unfold Oper.wp execOp
 simp only [ho,resolve,invoke,builtin,Sem.run_bind,Sem.run_pure,Result.andThen_ok,List.map_toArray,List.map_cons,List.map_nil,hv,hx,hr]
 exact k D d bl w' h1 h2 h3
theorem wpList_app_new (hg:Good s) (hf:Flat s) {ops:Array Oper} {rest:List Oper} {o:Oper} {a:Act} {Q:Exit→Act→World→Prop} (hgd:o.guard=none) (so x:Operand) (t e:TypeId)
 (ho:o.op=.call { callee:=.builtin .append,args:=#[so,x],argTypes:=#[t,t] }) (i:TypeInfo) (z:Value) (ht:P.underlying t=some (.slice e)) (hi:P.info? e=some i) (hz:i.zero=some z) (hs:i.size=s.size) (hzs:z.cells.size=s.size)
 {b:Addr} {A:Option Addr} {c:Nat} {xs:List α} (hv:a.eval so=.slice (some b) 0 0) (hx:a.eval x=.slice A xs.length c) (h:SRW s w A c xs) (hb:xs.length*i.bytes≤140737488355328)
 (k:∀D d bl w',SO s w' w.heap.size w'.heap.size D d xs bl→bl.Nodup→Up w w'→wpList P ops Q rest (a.put o.dst (.slice D xs.length d)) w'):wpList P ops Q (o::rest) a w :=
 wpList_plain hgd fun _ hK=>wp_app_new hg hf so x t e ho i z ht hi hz hs hzs hv hx h hb fun D d bl w' h1 h2 h3=>hK _ _ (k D d bl w' h1 h2 h3)
theorem step_app_new (hg:Good s) (hf:Flat s) {ops:Array Oper} {o:Oper} {a:Act} {K:Act→World→Prop} {Q:Exit→Act→World→Prop} {E:Prop} (hgd:o.guard=none) (so x:Operand) (t e:TypeId)
 (ho:o.op=.call { callee:=.builtin .append,args:=#[so,x],argTypes:=#[t,t] }) (i:TypeInfo) (z:Value) (ht:P.underlying t=some (.slice e)) (hi:P.info? e=some i) (hz:i.zero=some z) (hs:i.size=s.size) (hzs:z.cells.size=s.size)
 {b:Addr} {A:Option Addr} {c:Nat} {xs:List α} (hv:a.eval so=.slice (some b) 0 0) (hx:a.eval x=.slice A xs.length c) (h:SRW s w A c xs) (hb:xs.length*i.bytes≤140737488355328)
 (k:∀D d bl w',SO s w' w.heap.size w'.heap.size D d xs bl→bl.Nodup→Up w w'→K (a.put o.dst (.slice D xs.length d)) w'):if Region.wanted o (yielded ops a.tmps)=true then Oper.wp P o a w K Q else E:=by
 have hw:Region.wanted o (yielded ops a.tmps)=true:=by simp [Region.wanted,hgd]
 rw [if_pos hw]
 exact wp_app_new hg hf so x t e ho i z ht hi hz hs hzs hv hx h hb k
end
end Go.Proofs.YtojmcmghmnfjeaaGreatDoor
namespace Go.Proofs.YtojmcmghmnfjeaaGreatDoor
open Go.RowKit
set_option linter.unusedVariables false
structure Only (bl:List Nat) (w w':World):Prop where
 os:w'.os=w.os
 tape:w'.tape=w.tape
 output:w'.output=w.output
 size:w.heap.size≤w'.heap.size
 block:∀k,k<w.heap.size→k∉bl→w'.heap[k]?=w.heap[k]?
theorem Only.refl (bl:List Nat) (w:World):Only bl w w:=⟨rfl,rfl,rfl,Nat.le_refl _,fun _ _ _=>rfl⟩
theorem Only.trans {bl:List Nat} {a b c:World} (h:Only bl a b) (k:Only bl b c):Only bl a c :=
 ⟨k.os.trans h.os,k.tape.trans h.tape,k.output.trans h.output,Nat.le_trans h.size k.size,fun i hi hn=>(k.block i (Nat.lt_of_lt_of_le hi h.size) hn).trans (h.block i hi hn)⟩
theorem Only.up {bl:List Nat} {a b c:World} (h:Only bl a b) (k:Up b c):Only bl a c :=
 ⟨k.os.trans h.os,k.tape.trans h.tape,k.output.trans h.output,Nat.le_trans h.size k.size,fun i hi hn=>(k.block i (Nat.lt_of_lt_of_le hi h.size)).trans (h.block i hi hn)⟩
theorem Only.of_up {bl:List Nat} {a b:World} (k:Up a b):Only bl a b:=(Only.refl bl a).up k
theorem Only.but {bl:List Nat} {a b c:World} {g:Nat} (h:Only bl a b) (k:But g b c) (hg:g∈bl):Only bl a c :=
 ⟨k.os.trans h.os,k.tape.trans h.tape,k.output.trans h.output,by rw [k.size];exact h.size,fun i hi hn=>(k.block i (fun e=>hn (e▸hg))).trans (h.block i hi hn)⟩
theorem Only.mono {bl bl':List Nat} {a b:World} (h:Only bl a b) (hs:∀x∈bl,x∈bl'):Only bl' a b:=⟨h.os,h.tape,h.output,h.size,fun k hk hn=>h.block k hk (fun hm=>hn (hs k hm))⟩
theorem Up.only {w a b:World} {bl:List Nat} (h:Up w a) (k:Only bl a b) (hb:∀x∈bl,w.heap.size≤x):Up w b :=
 ⟨k.os.trans h.os,k.tape.trans h.tape,k.output.trans h.output,Nat.le_trans h.size k.size,fun i hi=>(k.block i (Nat.lt_of_lt_of_le hi h.size) (fun hm=>by have:=hb i hm;omega)).trans (h.block i hi)⟩
theorem Bk.only {w w':World} {g:Nat} {t:TypeId} {C:Array Value} {bl:List Nat} (h:Bk w g t C) (k:Only bl w w') (hg:g∉bl):Bk w' g t C:=(k.block g h.lt hg).trans h
structure Mk (α:Type) where
 cnt:α→Nat
 mark:α→Int→α
def dg:Nat→Nat→ByteArray→ByteArray
 | 0,_,out=>out
 | f+1,k,out=>if k=0 then out else dg f (k / 10) (⟨#[UInt8.ofNat (48+k%10)]⟩++out)
def mtext (k:Int):ByteArray:=⟨#[109]⟩++dg k.toNat k.toNat ⟨#[]⟩
theorem dg_zero (f:Nat) (out:ByteArray):dg f 0 out=out:=by cases f <;> simp [dg]
theorem dg_size (f:Nat):∀(k:Nat) (out:ByteArray),(dg f k out).size≤out.size+f:=by
 induction f with
 | zero=>intro k out;exact Nat.le_refl _
 | succ f ih =>
  intro k out
  unfold dg
  split
  ·omega
  ·have h:=ih (k / 10) (⟨#[UInt8.ofNat (48+k%10)]⟩++out)
   rw [ByteArray.size_append] at h
   have:(ByteArray.mk #[UInt8.ofNat (48+k%10)]).size=1:=rfl
   omega
theorem mtext_size (k:Int):(mtext k).size≤k.toNat+1:=by
 unfold mtext
 rw [ByteArray.size_append]
 have h:=dg_size k.toNat k.toNat ⟨#[]⟩
 have h1:(ByteArray.mk #[109]).size=1:=rfl
 have h2:(ByteArray.mk #[]).size=0:=rfl
 omega
def mkI:Mk Int:=⟨fun _=>1,fun _ k=>k⟩
def mkB:Mk Bool:=⟨fun _=>1,fun _ k=>k%3==0⟩
def mkS:Mk ByteArray:=⟨fun _=>1,fun _ k=>mtext k⟩
def mk0 {α:Type}:Mk α:=⟨fun _=>0,fun x _=>x⟩
def mkP {α β:Type} (a:Mk α) (b:Mk β):Mk (α×β):=⟨fun p=>a.cnt p.1+b.cnt p.2,fun p k=>(a.mark p.1 k,b.mark p.2 (k+a.cnt p.1))⟩
def markL {α:Type} (m:Mk α):List α→Int→List α
 | [],_=>[]
 | x::xs,k=>m.mark x k::markL m xs (k+m.cnt x)
def mkL {α:Type} (m:Mk α):Mk (List α):=⟨fun xs=>(xs.map m.cnt).sum,fun xs k=>markL m xs k⟩
structure GoodM {α:Type} (m:Mk α):Prop where
 idem:∀x k,m.mark (m.mark x k) k=m.mark x k
 same:∀x k,m.cnt (m.mark x k)=m.cnt x
theorem gm_I:GoodM mkI:=⟨fun _ _=>rfl,fun _ _=>rfl⟩
theorem gm_B:GoodM mkB:=⟨fun _ _=>rfl,fun _ _=>rfl⟩
theorem gm_S:GoodM mkS:=⟨fun _ _=>rfl,fun _ _=>rfl⟩
theorem gm_0 {α:Type}:GoodM (mk0 (α:=α)):=⟨fun _ _=>rfl,fun _ _=>rfl⟩
theorem gm_P {α β:Type} {a:Mk α} {b:Mk β} (ha:GoodM a) (hb:GoodM b):GoodM (mkP a b) :=
 ⟨fun p k=>by
  show (a.mark (a.mark p.1 k) k,b.mark (b.mark p.2 (k+a.cnt p.1)) (k+a.cnt (a.mark p.1 k)))=(a.mark p.1 k,b.mark p.2 (k+a.cnt p.1))
  rw [ha.same,ha.idem,hb.idem],fun p k=>by
  show a.cnt (a.mark p.1 k)+b.cnt (b.mark p.2 (k+a.cnt p.1))=a.cnt p.1+b.cnt p.2
  rw [ha.same,hb.same]⟩
theorem gm_L {α:Type} {m:Mk α} (h:GoodM m):GoodM (mkL m):=by
 refine ⟨fun xs=>?_,fun xs=>?_⟩
 ·show ∀k,markL m (markL m xs k) k=markL m xs k
  induction xs with
  | nil=>intro k;rfl
  | cons x xs ih=>intro k;simp only [markL];rw [h.idem,h.same,ih]
 ·show ∀k,((markL m xs k).map m.cnt).sum=(xs.map m.cnt).sum
  induction xs with
  | nil=>intro k;rfl
  | cons x xs ih=>intro k;simp only [markL,List.map_cons,List.sum_cons];rw [h.same,ih]
section
variable {α:Type} (m:Mk α)
theorem markL_len:∀(xs:List α) (k:Int),(markL m xs k).length=xs.length
 | [],_=>rfl
 | x::xs,k=>by simp [markL,markL_len xs]
theorem markL_append:∀(a b:List α) (k:Int),markL m (a++b) k=markL m a k++markL m b (k+((a.map m.cnt).sum:Nat))
 | [],b,k=>by simp [markL]
 | x::a,b,k=>by simp only [List.cons_append,markL,markL_append a b,List.map_cons,List.sum_cons];congr 3;omega
theorem markL_at (xs:List α) (k:Int) (i:Nat) (h:i<xs.length):(markL m xs k)[i]'(by rw [markL_len];exact h)=m.mark xs[i] (k+psum m.cnt xs i):=by
 have e:xs=xs.take i++(xs[i]::xs.drop (i+1)):=by rw [List.getElem_cons_drop,List.take_append_drop]
 have h2:markL m xs k=markL m (xs.take i) k++(m.mark xs[i] (k+psum m.cnt xs i)::markL m (xs.drop (i+1)) (k+psum m.cnt xs i+m.cnt xs[i])):=by
  conv=>lhs;rw [e]
  rw [markL_append]
  rfl
 have hl:(markL m (xs.take i) k).length=i:=by rw [markL_len];simp;omega
 have:(markL m xs k)[i]?=some (m.mark xs[i] (k+psum m.cnt xs i)):=by
  rw [h2,List.getElem?_append_right (by omega),hl];simp
 rw [List.getElem?_eq_getElem (by rw [markL_len];exact h)] at this
 injection this
def pm (xs:List α) (k:Int) (i:Nat):List α:=markL m (xs.take i) k++xs.drop i
theorem pm_zero (xs:List α) (k:Int):pm m xs k 0=xs:=by simp [pm,markL]
theorem pm_all (xs:List α) (k:Int) (i:Nat) (h:xs.length≤i):pm m xs k i=markL m xs k:=by simp [pm,List.take_of_length_le h,List.drop_of_length_le h]
theorem pm_at (xs:List α) (k:Int) (i:Nat) (h:i<xs.length):(pm m xs k i)[i]?=some xs[i]:=by
 have hl:(markL m (xs.take i) k).length=i:=by rw [markL_len];simp;omega
 unfold pm
 rw [List.getElem?_append_right (by omega),hl]
 simp [h]
theorem pm_succ (xs:List α) (k:Int) (i:Nat) (h:i<xs.length):(pm m xs k i).set i (m.mark xs[i] (k+psum m.cnt xs i))=pm m xs k (i+1):=by
 have hl:(markL m (xs.take i) k).length=i:=by rw [markL_len];simp;omega
 unfold pm
 rw [List.set_append_right _ _ (by omega),hl,Nat.sub_self,List.take_succ_eq_append_getElem h,markL_append,List.drop_eq_getElem_cons h,sZ]
 simp [markL,psum]
end
theorem nodup_mem_flatten {bls:List (List Nat)} (h:bls.flatten.Nodup) {i:Nat} {b:List Nat} (hb:bls[i]?=some b):b.Nodup∧∀j c,bls[j]?=some c→j≠i→∀x∈c,x∉b:=by
 induction bls generalizing i with
 | nil=>simp at hb
 | cons l bls ih =>
  simp only [List.flatten_cons,List.nodup_append] at h
  obtain ⟨h1,h2,h3⟩:=h
  cases i with
  | zero =>
   simp at hb;subst hb
   refine ⟨h1,fun j c hc hj x hx hxl=>?_⟩
   cases j with
   | zero=>exact hj rfl
   | succ j=>simp at hc;exact h3 x hxl x (List.mem_flatten.2 ⟨c,List.mem_of_getElem? hc,hx⟩) rfl
  | succ i =>
   simp at hb
   obtain ⟨g1,g2⟩:=ih h2 hb
   refine ⟨g1,fun j c hc hj x hx hxb=>?_⟩
   cases j with
   | zero=>simp at hc;subst hc;exact h3 x hx x (List.mem_flatten.2 ⟨b,List.mem_of_getElem? hb,hxb⟩) rfl
   | succ j=>simp at hc;exact g2 j c hc (by omega) x hx hxb
theorem SO.focus {α:Type} {s:Sh α} (hg:Good s) {w:World} {lo hi:Nat} {A:Option Addr} {c:Nat} {xs:List α} {bl:List Nat} (h:SO s w lo hi A c xs bl) (nd:bl.Nodup) {i:Nat} {x:α} (hx:xs[i]?=some x) :
 ∃ (g off:Nat) (C:Array Value) (tid:TypeId) (b:List Nat) (cs:List Value),A=some ⟨g,off,none⟩∧lo≤g∧g<hi∧Bk w g tid C∧cs.length=s.size∧(∀j,j<s.size→C[off+(i*s.size+j)]?=cs[j]?)∧s.own w lo hi cs x b ∧
  g∈bl∧g∉b∧b.Nodup∧(∀y∈b,y∈bl) ∧
  ∀(w':World) (C':Array Value) (cs':List Value) (x':α),Bk w' g tid C'→(∀j,j<s.size→C'[off+(i*s.size+j)]?=cs'[j]?)→(∀p,(p<off+i*s.size∨off+i*s.size+s.size≤p)→C'[p]?=C[p]?)→s.own w' lo hi cs' x' b→(∀y∈bl,y≠g→y∉b→w'.heap[y]?=w.heap[y]?)→SO s w' lo hi A c (xs.set i x') bl:=by
 have hi':i<xs.length:=by
  rcases Nat.lt_or_ge i xs.length with h | h
  ·exact h
  ·rw [List.getElem?_eq_none h] at hx;cases hx
 rcases h.2.2 with ⟨rfl,_⟩ | ⟨g,off,C,tid,bls,hA,h1,h2,hh,hcap,rfl,hbl,h3⟩
 ·simp at hi'
 ·obtain ⟨cs,b,hb,hl,hc,ho⟩:=h3 i hi'
  rw [List.getElem?_eq_getElem hi'] at hx
  injection hx with hx
  subst hx
  have nd':=List.nodup_cons.1 nd
  obtain ⟨nb,nother⟩:=nodup_mem_flatten nd'.2 hb
  have hin:∀y∈b,y∈bls.flatten:=fun y hy=>List.mem_flatten.2 ⟨b,List.mem_of_getElem? hb,hy⟩
  refine ⟨g,off,C,tid,b,cs,hA,h1,h2,hh,hl,hc,ho,List.mem_cons_self,fun hgb=>nd'.1 (hin g hgb),nb,fun y hy=>List.mem_cons_of_mem _ (hin y hy),fun w' C' cs' x' hbk' hin' hout' ho' hrest=>?_⟩
  have hl':=hg.len (hg.own_rep ho')
  have hcap':off+c*s.size≤C'.size:=by
   rcases Nat.eq_zero_or_pos (c*s.size) with hz | hz
   ·have hp:=hg.pos
    have h1:=h.1
    have:0<c:=by omega
    have:=Nat.mul_pos this hp
    omega
   ·rcases Nat.lt_or_ge (off+(c*s.size-1)) (off+i*s.size) with ha | ha
    ·have e:=hout' (off+(c*s.size-1)) (.inl ha)
     rw [Array.getElem?_eq_getElem (show off+(c*s.size-1)<C.size by omega)] at e
     have:=(Array.getElem?_eq_some_iff.1 e).1
     omega
    ·rcases Nat.lt_or_ge (off+(c*s.size-1)) (off+i*s.size+s.size) with hb' | hb'
     ·obtain ⟨j,hj⟩:∃j,off+(c*s.size-1)=off+(i*s.size+j):=⟨c*s.size-1-i*s.size,by omega⟩
      have e:=hin' j (by omega)
      rw [List.getElem?_eq_getElem (show j<cs'.length by rw [hl'];omega)] at e
      have:=(Array.getElem?_eq_some_iff.1 e).1
      omega
     ·have e:=hout' (off+(c*s.size-1)) (.inr hb')
      rw [Array.getElem?_eq_getElem (show off+(c*s.size-1)<C.size by omega)] at e
      have:=(Array.getElem?_eq_some_iff.1 e).1
      omega
  refine ⟨by simpa using h.1,h.2.1,.inr ⟨g,off,_,tid,bls,hA,h1,h2,hbk',hcap',rfl,by simpa using hbl,fun j hj=>?_⟩⟩
  have hj':j<xs.length:=by simpa using hj
  by_cases hji:j=i
  ·subst hji
   exact ⟨cs',b,hb,hl',hin',by simpa using ho'⟩
  ·obtain ⟨cs1,b1,hb1,hl1,hc1,ho1⟩:=h3 j hj'
   refine ⟨cs1,b1,hb1,hl1,fun q hq=>?_,?_⟩
   ·rw [hout']
    ·exact hc1 q hq
    ·rcases Nat.lt_or_ge j i with hlt | hge
     ·have:(j+1)*s.size≤i*s.size:=Nat.mul_le_mul_right _ hlt
      rw [Nat.succ_mul] at this
      omega
     ·have:(i+1)*s.size≤j*s.size:=Nat.mul_le_mul_right _ (by omega)
      rw [Nat.succ_mul] at this
      omega
   ·have:(xs.set i x')[j]'hj=xs[j]:=by rw [List.getElem_set_ne (by omega)]
    rw [this]
    refine hg.own_keep ho1 fun y hy=>hrest y (List.mem_cons_of_mem _ (List.mem_flatten.2 ⟨b1,List.mem_of_getElem? hb1,hy⟩)) (fun e=>?_) (nother j b1 hb1 hji y hy)
    subst e
    exact nd'.1 (List.mem_flatten.2 ⟨b1,List.mem_of_getElem? hb1,hy⟩)
theorem set_same {C:Array Value} {p q:Nat} {v u:Value} (e:q=p) (h:C[p]?=some u):(C.setIfInBounds p v)[q]?=some v:=by
 subst e
 have:=(Array.getElem?_eq_some_iff.1 h).1
 simp [this]
theorem set_ne {C:Array Value} {p q:Nat} {v:Value} (e:q≠p):(C.setIfInBounds p v)[q]?=C[q]?:=Array.getElem?_setIfInBounds_ne (fun h=>e h.symm)
def MarkL {α:Type} (s:Sh α) (m:Mk α) (lo hi:Nat) (A:Option Addr) (c:Nat) (xs:List α) (k:Int) (bl:List Nat) (w:World) (e:Ending) (w':World):Prop :=
 e=.returned (.int .i64 (k+((mkL m).cnt xs:Nat)))∧SO s w' lo hi A c (markL m xs k) bl∧Only bl w w'
def HeldP (n:Int) (w:World) (e:Ending) (w':World):Prop:=e=.returned (.int .i64 n)∧Up w w'
theorem MarkL.mk {α:Type} {s:Sh α} {m:Mk α} {lo hi:Nat} {A:Option Addr} {c:Nat} {xs:List α} {k n:Int} {bl:List Nat} {w w':World} (h:Hid (n=k+((mkL m).cnt xs:Nat))) (hs:SO s w' lo hi A c (markL m xs k) bl) (ho:Only bl w w'):MarkL s m lo hi A c xs k bl w (.returned (.int .i64 n)) w':=⟨by rw [h.out],hs,ho⟩
theorem HeldP.mk {n k:Int} {w w':World} (h:Hid (n=k)) (u:Up w w'):HeldP k w (.returned (.int .i64 n)) w':=⟨by rw [h.out],u⟩
theorem marked_at {α:Type} {m:Mk α} {xs:List α} {k:Int} (h:markL m xs k=xs) {i:Nat} (hi:i<xs.length):m.mark xs[i] (k+psum m.cnt xs i)=xs[i]:=by
 rw [←markL_at m xs k i hi];congr 1
theorem mtext_le {k:Int} (h:k≤1000000000):(mtext k).size≤maxLen:=by
 have:=mtext_size k
 unfold maxLen
 omega
def MarkV {α:Type} (s:Sh α) (m:Mk α) (lo hi:Nat) (cs:List Value) (x:α) (k:Int) (bl:List Nat) (w:World) (e:Ending) (w':World):Prop :=
 e=.returned (.int .i64 (k+(m.cnt x:Nat)))∧s.own w' lo hi cs (m.mark x k) bl∧Only bl w w'
theorem MarkV.mk {α:Type} {s:Sh α} {m:Mk α} {lo hi:Nat} {cs:List Value} {x:α} {k n:Int} {bl:List Nat} {w w':World} (h:Hid (n=k+(m.cnt x:Nat))) (hs:s.own w' lo hi cs (m.mark x k) bl) (ho:Only bl w w'):MarkV s m lo hi cs x k bl w (.returned (.int .i64 n)) w':=⟨by rw [h.out],hs,ho⟩
/-! ### Results in memory, read or owned, with a code beside them -/
def RpV {α:Type} (s:Sh α) (x:α) (w:World) (e:Ending) (w':World):Prop:=∃cs,e=.returned (.agg cs.toArray)∧s.rep w' 0 w'.heap.size cs x∧Up w w'
def RpR {α:Type} (s:Sh α) (x:α) (n:Int) (w:World) (e:Ending) (w':World):Prop:=∃cs,e=.returned (.tuple #[.agg cs.toArray,.int .i64 n])∧s.rep w' 0 w'.heap.size cs x∧Up w w'
def ToR {α:Type} (s:Sh α) (x:α) (n:Int) (w:World) (e:Ending) (w':World):Prop:=∃cs bl,e=.returned (.tuple #[.agg cs.toArray,.int .i64 n])∧s.own w' w.heap.size w'.heap.size cs x bl∧bl.Nodup∧Up w w'
theorem ToR.rp {α:Type} {s:Sh α} (hg:Good s) {x:α} {n:Int} {w w':World} {e:Ending} (h:ToR s x n w e w'):RpR s x n w e w':=by
 obtain ⟨cs,bl,he,ho,_,hu⟩:=h
 exact ⟨cs,he,hg.wide (hg.own_rep ho) (Nat.zero_le _) (Nat.le_refl _),hu⟩
theorem SO.to_own {α:Type} {s:Sh α} {w:World} {lo hi:Nat} {A:Option Addr} {n c:Nat} {xs:List α} {bl:List Nat} (hl:xs.length=n) (h:SO s w lo hi A c xs bl):(shL s).own w lo hi [.slice A n c] xs bl:=⟨A,c,by rw [hl],h⟩
end Go.Proofs.YtojmcmghmnfjeaaGreatDoor
namespace Go.Proofs.YtojmcmghmnfjeaaGreatDoor
open Go.RowKit
set_option linter.unusedVariables false
set_option linter.unusedSimpArgs false
theorem setCells_eq (g:Nat):∀(cs:List Value) (w:World) (p:Nat),w.setCells g p cs=setCells w g p cs
 | [],_,_=>rfl
 | c::cs,w,p=>by unfold World.setCells setCells;exact setCells_eq g cs _ _
def Rowed {α:Type} (s:Sh α) (w:World) (lo hi:Nat) (news:List Value) (ys:List α) (bs:List (List Nat)):Prop :=
 bs.length=ys.length∧news.length=ys.length*s.size∧∀i (h:i<ys.length),∃cs b,bs[i]?=some b∧cs.length=s.size∧(∀j,j<s.size→news[i*s.size+j]?=cs[j]?)∧s.own w lo hi cs ys[i] b
section
variable {P:Program} {α:Type} {s:Sh α} {w:World}
theorem Rowed.one (hg:Good s) {lo hi:Nat} {cs:List Value} {y:α} {b:List Nat} (h:s.own w lo hi cs y b):Rowed s w lo hi cs [y] [b]:=by
 have hl:=hg.len (hg.own_rep h)
 refine ⟨rfl,by simp [hl],fun i hi=>?_⟩
 obtain rfl:i=0:=by simp at hi;exact hi
 exact ⟨cs,b,rfl,hl,fun j _=>by simp,h⟩
theorem Rowed.flat (hg:Good s) (hf:Flat s) {lo hi lo' hi' g off:Nat} {xs:List α} (h:∀i (h:i<xs.length),∃cs,ElemAt w g off s.size i cs∧s.rep w lo' hi' cs xs[i]) :
 ∃news,Rowed s w lo hi news xs (List.replicate xs.length [])∧∀j u,news[j]?=some u→w.cell? ((⟨g,off,none⟩:Addr).add j)=some u:=by
 obtain ⟨news,hl,hn,hel⟩:=row_cells hg h
 refine ⟨news,⟨by simp,hl,fun i hi=>?_⟩,hn⟩
 obtain ⟨cs,hcl,hcj,hrep⟩:=hel i hi
 exact ⟨cs,[],by simp [hi],hcl,hcj,hf.own hrep _ _ _⟩
theorem Rowed.ones (hg:Good s) {lo hi:Nat} {news:List Value} {ys:List α} {bs:List (List Nat)} (h:Rowed s w lo hi news ys bs):∀u∈news,u.oneCell'=true:=by
 intro u hu
 obtain ⟨k,hk,rfl⟩:=List.getElem_of_mem hu
 have hp:=hg.pos
 rw [h.2.1] at hk
 have hi:k / s.size<ys.length:=(Nat.div_lt_iff_lt_mul hp).2 hk
 obtain ⟨cs,b,_,hl,hc,ho⟩:=h.2.2 _ hi
 have hj:k%s.size<s.size:=Nat.mod_lt _ hp
 have e:=hc _ hj
 rw [Nat.mul_comm,Nat.div_add_mod,List.getElem?_eq_getElem (by rw [h.2.1];exact hk),List.getElem?_eq_getElem (by rw [hl];exact hj)] at e
 injection e with e
 rw [e]
 exact hg.one (hg.own_rep ho) _ (List.getElem_mem _)
theorem flatten_snoc {bls bs:List (List Nat)}:(bls++bs).flatten=bls.flatten++bs.flatten:=by simp
theorem run_app (hg:Good s) (t tx ty e:TypeId) (i:TypeInfo) (z:Value) (ht:P.underlying t=some (.slice e)) (hi:P.info? e=some i) (hz:i.zero=some z) (hs:i.size=s.size) (hzs:z.cells.size=s.size)
 {lo:Nat} {A:Option Addr} {c:Nat} {xs ys:List α} {bl:List Nat} {bs:List (List Nat)} {news:List Value} {v:Value} (h:SO s w lo w.heap.size A c xs bl) (nd:(bl++bs.flatten).Nodup) (hsrc:Src P i.size tx v ys.length news w)
 (hr:Rowed s w lo w.heap.size news ys bs) (hlo:lo≤w.heap.size) (hb:(xs.length+ys.length)*i.bytes≤140737488355328) (h63:xs.length+ys.length≤maxLen) :
 ∃D d bl' w',(Builtin.append_ #[t,tx] ty #[.slice A xs.length c,v]).run P w=.ok (.slice D (xs.length+ys.length) d) w'∧SO s w' lo w'.heap.size D d (xs++ys) bl'∧bl'.Nodup∧(∀y∈bl',y∈bl++bs.flatten∨w.heap.size≤y)∧Only bl w w':=by
 have hones:=hr.ones hg
 have hnl:news.length=ys.length*s.size:=hr.2.1
 have hp:=hg.pos
 rcases Nat.eq_zero_or_pos ys.length with hy0 | hypos
 ·obtain rfl:=List.eq_nil_of_length_eq_zero hy0
  have hn0:news=[]:=List.eq_nil_of_length_eq_zero (by rw [hnl];simp)
  subst hn0
  have hbs:bs=[]:=List.eq_nil_of_length_eq_zero hr.1
  subst hbs
  refine ⟨A,c,bl,w,run_append_nothing w t tx ty e i ht hi A xs.length c h.1 v hsrc,by simpa using h,by simpa using nd,fun y hy=>.inl (by simpa using hy),Only.refl _ _⟩
 have hlen9:xs.length+ys.length≤9223372036854775807:=by unfold maxLen at h63;omega
 -- what the row holds till now
 have hold:∃(olds:List Value) (bls:List (List Nat)),olds.length=xs.length*s.size∧(Builtin.firstCells i.size xs.length (.slice A xs.length c)).run P w.drew=.ok olds.toArray w.drew∧bls.length=xs.length∧(∀y∈bls.flatten,y∈bl)∧bls.flatten.Nodup ∧
  ∀k (hk:k<xs.length),∃cs b,bls[k]?=some b∧cs.length=s.size∧(∀j,j<s.size→olds[k*s.size+j]?=cs[j]?)∧s.own w lo w.heap.size cs xs[k] b:=by
  rcases h.2.2 with ⟨rfl,rfl,rfl⟩ | ⟨g,off,C,tid,bls,rfl,h1,h2,hh,hcap,rfl,hbl,h3⟩
  ·refine ⟨[],[],by simp,?_,rfl,by simp,by simp,fun k hk=>absurd hk (by simp)⟩
   cases A <;> simp [Builtin.firstCells,loadCells,loadCellsFrom]
  ·have hbk:Bk w g tid C:=hh
   have hxc:off+xs.length*s.size≤C.size:=Nat.le_trans (Nat.add_le_add_left (Nat.mul_le_mul_right _ h.1) _) hcap
   have hadd:∀j,(⟨g,off,none⟩:Addr).add j=⟨g,off+j,none⟩:=fun j=>by unfold Addr.add;split <;> simp_all
   have hol:((C.toList.drop off).take (xs.length*s.size)).length=xs.length*s.size:=by simp;omega
   have hat:∀j,j<xs.length*s.size→((C.toList.drop off).take (xs.length*s.size))[j]?=C[off+j]?:=fun j hj=>by
    rw [List.getElem?_take_of_lt hj,List.getElem?_drop];simp
   refine ⟨(C.toList.drop off).take (xs.length*s.size),bls,hol,?_,hbl,fun y hy=>List.mem_cons_of_mem _ hy,?_,fun k hk=>?_⟩
   ·refine run_firstCells_some (P:=P) w.drew i.size xs.length ⟨g,off,none⟩ xs.length c _ (by rw [hol,hs]) (fun j u hu=>?_)
    rw [hadd]
    have hj:j<xs.length*s.size:=by rw [←hol];exact (List.getElem?_eq_some_iff.1 hu).1
    rw [hat j hj] at hu
    exact (hbk.drew.cell _).trans hu
   ·have:=(List.nodup_append.1 nd).1
    exact (List.nodup_cons.1 this).2
   ·obtain ⟨cs,b,e1,e2,e3,e4⟩:=h3 k hk
    refine ⟨cs,b,e1,e2,fun j hj=>?_,e4⟩
    have hlt:k*s.size+j<xs.length*s.size:=by
     have:=Nat.mul_le_mul_right s.size (Nat.succ_le_of_lt hk)
     rw [Nat.succ_mul] at this
     omega
    rw [hat _ hlt]
    exact e3 j hj
 by_cases hroom:xs.length+ys.length≤c
 ·rcases h.2.2 with ⟨rfl,rfl,rfl⟩ | ⟨g,off,C,tid,bls,rfl,h1,h2,hh,hcap,rfl,hbl,h3⟩
  ·simp only [List.length_nil,Nat.zero_add] at hroom;omega
  have hbk:Bk w g tid C:=hh
  have hxy:off+(xs.length+ys.length)*s.size≤C.size:=Nat.le_trans (Nat.add_le_add_left (Nat.mul_le_mul_right _ hroom) _) hcap
  rw [Nat.add_mul] at hxy
  have hrun:=run_append_room_src (P:=P) w t tx ty e i ht hi g off xs.length c v ys.length news hsrc hroom
   (fun j hj=>by
    rw [hbk.cell,hs,Array.getElem?_eq_getElem (by rw [hnl] at hj;omega)];rfl) (fun j hj=>hbk.frozen _)
  rw [hs,setCells_eq] at hrun
  have hbut:=But.sets (g:=g) news w (off+xs.length*s.size)
  have hbk':=hbk.sets news (off+xs.length*s.size)
  have hnd:=List.nodup_append.1 nd
  have hnd1:=List.nodup_cons.1 hnd.1
  refine ⟨_,_,g::(bls++bs).flatten,_,hrun,⟨by simpa using hroom,h.2.1,.inr ⟨g,off,_,tid,bls++bs,rfl,h1,by rw [hbut.size];exact h2,hbk',by rw [putCells_size];exact hcap,rfl,by simp [hbl,hr.1],fun k hk=>?_⟩⟩,?_,?_,?_⟩
  ·rw [hbut.size]
   by_cases hkx:k<xs.length
   ·obtain ⟨cs,b,e1,e2,e3,e4⟩:=h3 k hkx
    refine ⟨cs,b,by rw [List.getElem?_append_left (by omega)];exact e1,e2,fun j hj=>?_,?_⟩
    ·have:=Nat.mul_le_mul_right s.size (Nat.succ_le_of_lt hkx)
     rw [Nat.succ_mul] at this
     rw [putCells_far _ _ _ _ (by omega)]
     exact e3 j hj
    ·rw [List.getElem_append_left hkx]
     refine hg.own_keep e4 (fun y hy=>hbut.block y (fun e=>?_))
     subst e
     exact hnd1.1 (List.mem_flatten.2 ⟨b,List.mem_of_getElem? e1,hy⟩)
   ·have hk':k-xs.length<ys.length:=by simp at hk;omega
    obtain ⟨cs,b,e1,e2,e3,e4⟩:=hr.2.2 (k-xs.length) hk'
    refine ⟨cs,b,by rw [List.getElem?_append_right (by omega),hbl];exact e1,e2,fun j hj=>?_,?_⟩
    ·have hm:=Nat.mul_le_mul_right s.size (Nat.succ_le_of_lt hk')
     rw [Nat.succ_mul] at hm
     have hks:k*s.size=xs.length*s.size+(k-xs.length)*s.size:=by rw [←Nat.add_mul];congr 1;omega
     rw [show off+(k*s.size+j)=off+xs.length*s.size+((k-xs.length)*s.size+j) by omega,putCells_at _ _ _ _ (by rw [hnl];omega) (by rw [hnl];omega)]
     exact e3 j hj
    ·rw [List.getElem_append_right (by omega)]
     refine hg.own_keep e4 (fun y hy=>hbut.block y (fun e=>?_))
     subst e
     exact hnd.2.2 y (List.mem_cons_self ..) y (List.mem_flatten.2 ⟨b,List.mem_of_getElem? e1,hy⟩) rfl
  ·rw [flatten_snoc];simpa using nd
  ·intro y hy
   rw [flatten_snoc] at hy
   exact .inl (by simpa using hy)
  ·exact (Only.refl _ w).but hbut (List.mem_cons_self ..)
 ·obtain ⟨olds,bls,hol,hrun0,hbl,hsub,hndf,h3⟩:=hold
  have hgrow:c<xs.length+ys.length:=by omega
  have hrun:=run_append_grow_src (P:=P) w t tx ty e i z ht hi hz A xs.length c olds hrun0 v ys.length news hsrc hgrow (by omega) (growslice_fits hgrow hb)
  have hge:=grownCap_ge w (xs.length+ys.length) c e
  have hcm:grownCap w (xs.length+ys.length) c e≤maxLen:=grownCap_le_maxLen w _ c e h63
  have hu:Up w (w.drew.alloc (.cells ((olds++news).toArray++Builtin.zeroCells z.cells (grownCap w (xs.length+ys.length) c e-(xs.length+ys.length))) e)):=(Up.refl w).drew.alloc _
  have hnd:=List.nodup_append.1 nd
  have hcell:∀p,p<(xs.length+ys.length)*s.size→((olds++news).toArray++Builtin.zeroCells z.cells (grownCap w (xs.length+ys.length) c e-(xs.length+ys.length)))[p]?=(olds++news)[p]?:=fun p hp'=>by
   rw [Array.getElem?_append_left (by rw [Nat.add_mul] at hp';simp only [List.size_toArray,List.length_append,hol,hnl];exact hp')]
   simp
  have hin:∀y∈bl,y<w.heap.size:=fun y hy=>(h.in_ hg y hy).2
  have hinb:∀y∈bs.flatten,y<w.heap.size:=fun y hy=>by
   obtain ⟨l,hl,hyl⟩:=List.mem_flatten.1 hy
   obtain ⟨q,hq,rfl⟩:=List.getElem_of_mem hl
   obtain ⟨cs,b,e1,_,_,e4⟩:=hr.2.2 q (by rw [←hr.1];exact hq)
   rw [List.getElem?_eq_getElem hq] at e1
   injection e1 with e1
   subst e1
   exact (hg.own_in e4 y hyl).2
  refine ⟨_,_,w.heap.size::(bls++bs).flatten,_,hrun,⟨by simpa using hge,hcm,.inr ⟨w.heap.size,0,_,e,bls++bs,rfl,hlo,by simp,heap_alloc_new w.drew _,?_,rfl,by simp [hbl,hr.1],fun k hk=>?_⟩⟩,?_,?_,Only.of_up hu⟩
  ·simp only [Array.size_append,size_zeroCells,hzs,List.size_toArray,List.length_append,hol,hnl]
   rw [←Nat.add_mul,←Nat.add_mul,Nat.zero_add]
   exact Nat.mul_le_mul_right _ (by omega)
  ·by_cases hkx:k<xs.length
   ·obtain ⟨cs,b,e1,e2,e3,e4⟩:=h3 k hkx
    refine ⟨cs,b,by rw [List.getElem?_append_left (by omega)];exact e1,e2,fun j hj=>?_,?_⟩
    ·have:=Nat.mul_le_mul_right s.size (Nat.succ_le_of_lt hkx)
     rw [Nat.succ_mul] at this
     rw [Nat.zero_add,hcell _ (by rw [Nat.add_mul];omega),List.getElem?_append_left (by rw [hol];omega)]
     exact e3 j hj
    ·rw [List.getElem_append_left hkx]
     exact own_up hg e4 hu
   ·have hk':k-xs.length<ys.length:=by simp at hk;omega
    obtain ⟨cs,b,e1,e2,e3,e4⟩:=hr.2.2 (k-xs.length) hk'
    refine ⟨cs,b,by rw [List.getElem?_append_right (by omega),hbl];exact e1,e2,fun j hj=>?_,?_⟩
    ·have hm:=Nat.mul_le_mul_right s.size (Nat.succ_le_of_lt hk')
     rw [Nat.succ_mul] at hm
     have hks:k*s.size=xs.length*s.size+(k-xs.length)*s.size:=by rw [←Nat.add_mul];congr 1;omega
     rw [Nat.zero_add,hcell _ (by rw [Nat.add_mul];omega),List.getElem?_append_right (by rw [hol];omega),hol,show k*s.size+j-xs.length*s.size=(k-xs.length)*s.size+j by omega]
     exact e3 j hj
    ·rw [List.getElem_append_right (by omega)]
     exact own_up hg e4 hu
  ·rw [List.nodup_cons,flatten_snoc,List.nodup_append]
   refine ⟨fun hm=>?_,hndf,hnd.2.1,fun a ha b hb e=>hnd.2.2 a (hsub a ha) b hb e⟩
   rcases List.mem_append.1 hm with hm | hm
   ·have:=hin _ (hsub _ hm);omega
   ·have:=hinb _ hm;omega
  ·intro y hy
   rcases List.mem_cons.1 hy with rfl | hy
   ·exact .inr (Nat.le_refl _)
   ·rw [flatten_snoc] at hy
    rcases List.mem_append.1 hy with hy | hy
    ·exact .inl (List.mem_append_left _ (hsub y hy))
    ·exact .inl (List.mem_append_right _ hy)
def AppP {α:Type} (s:Sh α) (w:World) (lo:Nat) (xs ys:List α) (bl:List Nat) (bs:List (List Nat)) (D:Option Addr) (d:Nat) (bl':List Nat) (w':World):Prop :=
 SO s w' lo w'.heap.size D d (xs++ys) bl'∧bl'.Nodup∧(∀y∈bl',y∈bl++bs.flatten∨w.heap.size≤y)∧Only bl w w'
theorem wp_app (hg:Good s) {o:Oper} {a:Act} {K:Act→World→Prop} {Q:Exit→Act→World→Prop} (so x:Operand) (t tx e:TypeId)
 (ho:o.op=.call { callee:=.builtin .append,args:=#[so,x],argTypes:=#[t,tx] }) (i:TypeInfo) (z:Value) (ht:P.underlying t=some (.slice e)) (hi:P.info? e=some i) (hz:i.zero=some z) (hs:i.size=s.size) (hzs:z.cells.size=s.size)
 {lo:Nat} {A:Option Addr} {c:Nat} {xs ys:List α} {bl:List Nat} {bs:List (List Nat)} {news:List Value} {v:Value} (hv:a.eval so=.slice A xs.length c) (hx:a.eval x=v)
 (h:SO s w lo w.heap.size A c xs bl) (nd:(bl++bs.flatten).Nodup) (hsrc:Src P i.size tx v ys.length news w) (hr:Rowed s w lo w.heap.size news ys bs) (hlo:lo≤w.heap.size) (hb:(xs.length+ys.length)*i.bytes≤140737488355328) (h63:xs.length+ys.length≤maxLen)
 (k:∀D d bl' w',AppP s w lo xs ys bl bs D d bl' w'→K (a.put o.dst (.slice D (xs.length+ys.length) d)) w'):o.wp P a w K Q:=by
 obtain ⟨D,d,bl',w',hrun,h1⟩:=run_app (P:=P) (w:=w) hg t tx o.type e i z ht hi hz hs hzs h nd hsrc hr hlo hb h63
 unfold Oper.wp execOp
 simp only [ho,resolve,invoke,builtin,Sem.run_bind,Sem.run_pure,Result.andThen_ok,List.map_toArray,List.map_cons,List.map_nil,hv,hx,hrun]
 exact k D d bl' w' h1
theorem wpList_app (hg:Good s) {ops:Array Oper} {rest:List Oper} {o:Oper} {a:Act} {Q:Exit→Act→World→Prop} (hgd:o.guard=none) (so x:Operand) (t tx e:TypeId)
 (ho:o.op=.call { callee:=.builtin .append,args:=#[so,x],argTypes:=#[t,tx] }) (i:TypeInfo) (z:Value) (ht:P.underlying t=some (.slice e)) (hi:P.info? e=some i) (hz:i.zero=some z) (hs:i.size=s.size) (hzs:z.cells.size=s.size)
 {lo:Nat} {A:Option Addr} {c:Nat} {xs ys:List α} {bl:List Nat} {bs:List (List Nat)} {news:List Value} {v:Value} (hv:a.eval so=.slice A xs.length c) (hx:a.eval x=v)
 (h:SO s w lo w.heap.size A c xs bl) (nd:(bl++bs.flatten).Nodup) (hsrc:Src P i.size tx v ys.length news w) (hr:Rowed s w lo w.heap.size news ys bs) (hlo:lo≤w.heap.size) (hb:(xs.length+ys.length)*i.bytes≤140737488355328) (h63:xs.length+ys.length≤maxLen)
 (k:∀D d bl' w',AppP s w lo xs ys bl bs D d bl' w'→wpList P ops Q rest (a.put o.dst (.slice D (xs.length+ys.length) d)) w'):wpList P ops Q (o::rest) a w :=
 wpList_plain hgd fun _ hK=>wp_app hg so x t tx e ho i z ht hi hz hs hzs hv hx h nd hsrc hr hlo hb h63 fun D d bl' w' h1=>hK _ _ (k D d bl' w' h1)
theorem step_app (hg:Good s) {ops:Array Oper} {o:Oper} {a:Act} {K:Act→World→Prop} {Q:Exit→Act→World→Prop} {E:Prop} (hgd:o.guard=none) (so x:Operand) (t tx e:TypeId)
 (ho:o.op=.call { callee:=.builtin .append,args:=#[so,x],argTypes:=#[t,tx] }) (i:TypeInfo) (z:Value) (ht:P.underlying t=some (.slice e)) (hi:P.info? e=some i) (hz:i.zero=some z) (hs:i.size=s.size) (hzs:z.cells.size=s.size)
 {lo:Nat} {A:Option Addr} {c:Nat} {xs ys:List α} {bl:List Nat} {bs:List (List Nat)} {news:List Value} {v:Value} (hv:a.eval so=.slice A xs.length c) (hx:a.eval x=v)
 (h:SO s w lo w.heap.size A c xs bl) (nd:(bl++bs.flatten).Nodup) (hsrc:Src P i.size tx v ys.length news w) (hr:Rowed s w lo w.heap.size news ys bs) (hlo:lo≤w.heap.size) (hb:(xs.length+ys.length)*i.bytes≤140737488355328) (h63:xs.length+ys.length≤maxLen)
 (k:∀D d bl' w',AppP s w lo xs ys bl bs D d bl' w'→K (a.put o.dst (.slice D (xs.length+ys.length) d)) w'):if Region.wanted o (yielded ops a.tmps)=true then Oper.wp P o a w K Q else E:=by
 have hw:Region.wanted o (yielded ops a.tmps)=true:=by simp [Region.wanted,hgd]
 rw [if_pos hw]
 exact wp_app hg so x t tx e ho i z ht hi hz hs hzs hv hx h nd hsrc hr hlo hb h63 k
theorem Src.box {tx e':TypeId} (hk:P.underlying tx=some (.slice e')) {B:Nat} {t:TypeId} {cs:List Value} (hB:Bk w B t cs.toArray) (hone:∀u∈cs,u.oneCell'=true) {n:Nat} (hn:cs.length=n):Src P n tx (.slice (some ⟨B,0,none⟩) 1 1) 1 cs w :=
 Src.ofSlice w hk ⟨B,0,none⟩ 1 1 cs (by rw [hn];simp) (fun j u hu=>by
  have hadd:(⟨B,0,none⟩:Addr).add j=⟨B,0+j,none⟩:=by unfold Addr.add;split <;> simp_all
  rw [hadd,Nat.zero_add,hB.cell];simpa using hu) hone
end
end Go.Proofs.YtojmcmghmnfjeaaGreatDoor
namespace Go.Proofs.YtojmcmghmnfjeaaGreatDoor
open Go.RowKit
set_option linter.unusedVariables false
def zs (n:Nat):ByteArray:=⟨(List.replicate n 0).toArray⟩
theorem info_B8:(Tryz.prog.info? 5).map (fun i=>(i.zero,i.size,i.bytes))=some (some (.int .u8 0),1,1):=by kernel_rfl
end Go.Proofs.YtojmcmghmnfjeaaGreatDoor
namespace Go.Proofs.YtojmcmghmnfjeaaGreatDoor
open Go.RowKit
set_option linter.unusedVariables false
set_option linter.unusedSimpArgs false
def shU:Sh UInt8 where
 size:=1
 rep:=fun _ _ _ cs b=>cs=[.int .u8 (b.toNat:Int)]
 own:=fun _ _ _ cs b bl=>cs=[.int .u8 (b.toNat:Int)]∧bl=[]
 sz:=fun _=>0
theorem good_U:Good shU:=by
 refine ⟨?_,?_,?_,?_,?_,?_,?_,?_,by decide,?_⟩ <;> simp +contextual [shU,Value.oneCell']
theorem SO.bytes {w:World} {lo hi:Nat} {A:Option Addr} {c:Nat} {xs:List UInt8} {bl:List Nat} (h:SO shU w lo hi A c xs bl) (hp:0<xs.length):∃g off,A=some ⟨g,off,none⟩∧Lib.Bytes w g off ⟨xs.toArray⟩:=by
 obtain ⟨g,off,hA,_,_,h3⟩:=(h.rep good_U).2.2 hp
 refine ⟨g,off,hA,fun i hi=>?_⟩
 have hi':i<xs.length:=by simpa [ByteArray.size] using hi
 obtain ⟨cs,hc,rfl⟩:=h3 i hi'
 have:=hc.2 0 (by decide)
 have e:(ByteArray.mk xs.toArray)[i]=xs[i]:=by simp [ByteArray.getElem_eq_getElem_data]
 rw [e]
 simpa [shU] using this
end Go.Proofs.YtojmcmghmnfjeaaGreatDoor
