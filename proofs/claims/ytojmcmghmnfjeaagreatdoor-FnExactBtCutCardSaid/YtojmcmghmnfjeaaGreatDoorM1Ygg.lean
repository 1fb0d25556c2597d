/-
 Parts of the proof.
-/
import Derived.Test.YtojmcmghmnfjeaaGreatDoorM1Bpg
import Derived.Test.YtojmcmghmnfjeaaGreatDoorM1Pn
import Derived.Test.YtojmcmghmnfjeaaGreatDoorM1K
set_option maxHeartbeats 4000000
set_option maxRecDepth 100000
namespace Go.Proofs.YtojmcmghmnfjeaaGreatDoor
open Go.RowKit
set_option linter.unusedVariables false
set_option linter.unusedSimpArgs false
def shKept {α:Type} (g:Nat) (w0:World) (s:Sh α):Sh α where
 size:=s.size
 rep:=fun _ _ _ cs x=>∀W,Only [g] w0 W→s.rep W 0 W.heap.size cs x
 own:=fun _ _ _ cs x bl=>(∀W,Only [g] w0 W→s.rep W 0 W.heap.size cs x)∧bl=[]
 sz:=s.sz
theorem good_Kept {α:Type} {g:Nat} {w0:World} {s:Sh α} (hg:Good s):Good (shKept g w0 s) where
 len:=fun h=>hg.len (h w0 (Only.refl _ _))
 keep:=fun h _=>h
 wide:=fun h _ _=>h
 own_rep:=fun h=>h.1
 own_in:=fun h b hb=>by rw [h.2] at hb;simp at hb
 own_keep:=fun h _=>h
 own_wide:=fun h _ _=>h
 own_le:=fun h=>.inr fun b hb=>by rw [h.2] at hb;simp at hb
 pos:=hg.pos
 one:=fun h u hu=>hg.one (h w0 (Only.refl _ _)) u hu
theorem kept_go {α:Type} {s:Sh α} {g:Nat} {w W:World} {cs:List Value} {x:α} (h:∀V,Only [g] w V→s.rep V 0 V.heap.size cs x) (k:Only [g] w W):∀V,Only [g] W V→s.rep V 0 V.heap.size cs x:=fun V kv=>h V (k.trans kv)
theorem kept_own {α:Type} {s:Sh α} (hg:Good s) {g lo:Nat} {w:World} {cs:List Value} {x:α} {bl:List Nat} (h:s.own w lo w.heap.size cs x bl) (hn:g∉bl):∀V,Only [g] w V→s.rep V 0 V.heap.size cs x:=fun V kv =>
 hg.wide (hg.own_rep (hg.own_keep h fun b hb=>kv.block b (hg.own_in h b hb).2 (fun hm=>hn (by rw [←List.mem_singleton.1 hm];exact hb)))) (Nat.zero_le _) kv.size
def RowK {α:Type} (s:Sh α) (g:Nat) (w:World) (A:Option Addr) (c:Nat) (xs:List α):Prop :=
 SR (shKept g w s) w 0 w.heap.size A c xs∧∀a,A=some a→0<xs.length→a.block≠g
theorem RowK.go {α:Type} {s:Sh α} (hg:Good s) {g:Nat} {w W:World} {A:Option Addr} {c:Nat} {xs:List α} (h:RowK s g w A c xs) (k:Only [g] w W):RowK s g W A c xs:=by
 refine ⟨⟨h.1.1,h.1.2.1,fun hp=>?_⟩,h.2⟩
 obtain ⟨b,off,hA,h1,h2,h3⟩:=h.1.2.2 hp
 have hne:=h.2 _ hA hp
 refine ⟨b,off,hA,h1,Nat.lt_of_lt_of_le h2 k.size,fun i hi=>?_⟩
 obtain ⟨cs,hc,hr⟩:=h3 i hi
 refine ⟨cs,hc.keep (lo:=b) (hi:=b+1) (fun y y1 y2=>?_) (Nat.le_refl _) (Nat.lt_succ_self _),kept_go hr k⟩
 obtain rfl:y=b:=by omega
 exact k.block y h2 (fun hm=>hne (List.mem_singleton.1 hm))
theorem RowK.sr {α:Type} {s:Sh α} {g:Nat} {w:World} {A:Option Addr} {c:Nat} {xs:List α} (h:RowK s g w A c xs):SRW s w A c xs:=by
 refine ⟨h.1.1,h.1.2.1,fun hp=>?_⟩
 obtain ⟨b,off,hA,h1,h2,h3⟩:=h.1.2.2 hp
 refine ⟨b,off,hA,h1,h2,fun i hi=>?_⟩
 obtain ⟨cs,hc,hr⟩:=h3 i hi
 exact ⟨cs,hc,hr w (Only.refl _ _)⟩
theorem RowK.at_ {α:Type} {s:Sh α} {g:Nat} {w:World} {A:Option Addr} {c:Nat} {xs:List α} (h:RowK s g w A c xs) {i:Nat} (hi:i<xs.length):∃b off cs,A=some ⟨b,off,none⟩∧b≠g∧b<w.heap.size∧ElemAt w b off s.size i cs∧∀V,Only [g] w V→s.rep V 0 V.heap.size cs xs[i]:=by
 obtain ⟨b,off,hA,h1,h2,h3⟩:=h.1.2.2 (by omega)
 obtain ⟨cs,hc,hr⟩:=h3 i hi
 exact ⟨b,off,cs,hA,h.2 _ hA (by omega),h2,hc,hr⟩
theorem RowK.of_own {α:Type} {s:Sh α} (hg:Good s) {g lo:Nat} {w:World} {A:Option Addr} {c:Nat} {xs:List α} {bl:List Nat} (h:SO s w lo w.heap.size A c xs bl) (hn:g∉bl):RowK s g w A c xs:=by
 rcases h.row with ⟨rfl,rfl,rfl⟩ | ⟨b,off,C,tid,bls,olds,rfl,h1,h2,hb,hcap,rfl,hr,ho⟩
 ·exact ⟨⟨Nat.le_refl _,Nat.zero_le _,fun hp=>absurd hp (by simp)⟩,fun _ _ hp=>absurd hp (by simp)⟩
 ·refine ⟨⟨h.1,h.2.1,fun hp=>⟨b,off,rfl,Nat.zero_le _,h2,fun i hi=>?_⟩⟩,fun a ha _=>?_⟩
  ·obtain ⟨cs,b',e1,e2,e3,e4⟩:=hr.2.2 i hi
   refine ⟨cs,⟨e2,fun j hj=>?_⟩,kept_own hg e4 (fun hm=>hn ?_)⟩
   ·have:=Nat.mul_le_mul_right s.size (Nat.succ_le_of_lt hi)
    rw [Nat.succ_mul] at this
    have hj':j<s.size:=hj
    have key:i*s.size+j<olds.length:=by rw [hr.2.1];omega
    exact (hb.cell _).trans ((ho _ key).trans (e3 j hj'))
   ·have hbi:i<bls.length:=by rw [hr.1];exact hi
    rw [List.getElem?_eq_getElem hbi] at e1
    injection e1 with e1
    exact List.mem_cons_of_mem _ (List.mem_flatten.2 ⟨bls[i],List.getElem_mem _,by rw [e1];exact hm⟩)
  ·injection ha with ha
   subst ha
   exact fun e=>hn (by rw [←e];exact List.mem_cons_self ..)
theorem RowK.of_kept {α:Type} {s:Sh α} (hg:Good s) {g lo:Nat} {w0 w:World} {A:Option Addr} {c:Nat} {xs:List α} {bl:List Nat} (h:SO (shKept g w0 s) w lo w.heap.size A c xs bl) (k:Only [g] w0 w) (hn:g∉bl):RowK s g w A c xs:=by
 have hr:=RowK.of_own (good_Kept hg) h hn
 refine ⟨⟨hr.1.1,hr.1.2.1,fun hp=>?_⟩,hr.2⟩
 obtain ⟨b,off,hA,h1,h2,h3⟩:=hr.1.2.2 hp
 refine ⟨b,off,hA,h1,h2,fun i hi=>?_⟩
 obtain ⟨cs,hc,hrr⟩:=h3 i hi
 exact ⟨cs,hc,kept_go (hrr w (Only.refl _ _)) k⟩
def PgK (g:Nat) (w:World) (v:Value) (p:TPage):Prop:=∃cs,v=.agg cs.toArray∧∀V,Only [g] w V→shPage.rep V 0 V.heap.size cs p
theorem PgK.go {g:Nat} {w W:World} {v:Value} {p:TPage} (h:PgK g w v p) (k:Only [g] w W):PgK g W v p:=by
 obtain ⟨cs,hv,hr⟩:=h
 exact ⟨cs,hv,kept_go hr k⟩
theorem PgK.av {g:Nat} {w:World} {v:Value} {p:TPage} (h:PgK g w v p):AV shPage w v p:=by
 obtain ⟨cs,hv,hr⟩:=h
 exact ⟨cs,hv,hr w (Only.refl _ _)⟩
theorem only_up {g:Nat} {w W:World} (u:Up w W):Only [g] w W:=Only.of_up u
def StR (w:World) (g:Nat) (root:Int) (l:List TSlot):Prop :=
 ∃A c,Bk w g 28 #[.int .i64 root,.slice A l.length c]∧RowK shSlot g w A c l∧I64 root
theorem StR.up {w W:World} {g:Nat} {root:Int} {l:List TSlot} (h:StR w g root l) (u:Up w W):StR W g root l:=by
 obtain ⟨A,c,h1,h2,h3⟩:=h
 exact ⟨A,c,h1.up u,h2.go good_Slot (only_up u),h3⟩
theorem slot_kept {g:Nat} {w:World} {id:Int} {p:TPage} {cs:List Value} (hid:I64 id) (h:∀V,Only [g] w V→shPage.rep V 0 V.heap.size cs p):∀V,Only [g] w V→shSlot.rep V 0 V.heap.size (.int .i64 id::cs) (id,p):=fun V kv =>
 (mk_P good_I ⟨rfl,hid⟩ (h V kv):shSlot.rep V 0 V.heap.size ([.int .i64 id]++cs) (id,p))
theorem page_kept {g:Nat} {w:World} {s:TSlot} {cs:List Value} (h:∀V,Only [g] w V→shSlot.rep V 0 V.heap.size cs s):∃ds,cs=.int .i64 s.1::ds∧I64 s.1∧∀V,Only [g] w V→shPage.rep V 0 V.heap.size ds s.2:=by
 obtain ⟨p1,q1,e,l1,r1⟩:=open_P (h w (Only.refl _ _))
 obtain ⟨rfl,b0⟩:=l1
 refine ⟨q1,e,b0,fun V kv=>?_⟩
 obtain ⟨p2,q2,e2,l2,r2⟩:=open_P (h V kv)
 obtain ⟨rfl,_⟩:=l2
 rw [e] at e2
 have:q1=q2:=by simpa using e2
 rw [this]
 exact r2
def AtP (y:TBtree) (id:Int) (w:World) (e:Ending) (w':World):Prop :=
 ∃n:Int,e=.returned (.int .i64 n)∧Up w w'∧((n=-1∧∀i (hi:i<y.2.length),y.2[i].1≠id)∨∃i,∃hi:i<y.2.length,n=(i:Int)∧y.2[i].1=id)
theorem c_l16At (v:Value) (y:TBtree) (id:Int) (w:World) (h:AV shBtree w v y):Calls Tryz.prog 59 #[v,.int .i64 id] w (AtP y id w):=by
 obtain ⟨cs,rfl,h⟩:=h
 obtain ⟨r,x⟩:=y
 have ho:=openBtree h
 dsimp only at ho
 obtain ⟨A0,c0,rfl,br,b00⟩:=ho
 clear h
 have hlen:=b00.len_le
 have kT0:=Bk.new w 28 #[.int .i64 r,.slice A0 x.length c0]
 have uu0:Up w (w.alloc (.cells #[.int .i64 r,.slice A0 x.length c0] 28)):=(Up.refl w).alloc _
 go_enter Tryz.func59,Tryz.ntmps59
 go_wp2_with fail
 go_loopw [5] (fun i wr=>∃k:Nat,k≤x.length∧i=.int .i64 k∧Hid (∀j (hj:j<x.length),j<k→x[j].1≠id)∧wr=(w.alloc (.cells #[.int .i64 r,.slice A0 x.length c0] 28))) (fun i _=>x.length-(intOf i).toNat)
 case atStart=>exact ⟨0,Nat.zero_le _,rfl,Hd (fun j hj h1=>absurd h1 (by omega)),rfl⟩
 case round =>
  obtain ⟨k,hk,rfl,HB,rfl⟩:=hrel
  generalize (w.alloc (.cells #[.int .i64 r,.slice A0 x.length c0] 28))=W0 at kT0 uu0 ⊢
  have gT:W0.cell? ⟨w.heap.size,1,none⟩=some (.slice A0 x.length c0):=kT0.cell 1
  by_cases hlt:k<x.length
  ·obtain ⟨g,off,A2,c2,A3,c3,A4,c4,hA,_,hgl,hc0,hc1,hc2,hc3,hc4,b0,b2,b3,b4,_⟩:=atSlot (b00.up good_Slot uu0) hlt
   subst hA
   clear hc1 hc2 hc3 hc4 b2 b3 b4
   by_cases e:x[k].1=id
   ·have he:(x[k].1==id)=true:=beq_iff_eq.2 e
    have HE:=Hd e
    clear e
    go_wp2_with fail
    go_ret
    exact ⟨k,rfl,uu0,.inr ⟨k,hlt,rfl,HE.out⟩⟩
   ·have he:(x[k].1==id)=false:=beq_eq_false_iff_ne.2 e
    have HN:Hid (∀j (hj:j<x.length),j<k+1→x[j].1≠id):=Hd (fun j hj h1=>by
     by_cases q:j=k
     ·subst q;exact e
     ·exact HB.out j hj (by omega))
    have HE:=Hd e
    clear e
    go_wp2_with fail
    go_roundw
    case rel=>exact ⟨k+1,by omega,by go_num,HN,by first | rfl | trivial⟩
    case measure=>simp [intOf];omega
  ·have HN:=Hd (fun j (hj:j<x.length)=>HB.out j hj (by omega))
   obtain rfl:k=x.length:=by omega
   clear HB
   go_wp2_with fail
   go_ret
   exact ⟨-1,rfl,uu0,.inl ⟨rfl,HN.out⟩⟩
theorem c_l00Has (xs:List Int) (A:Option Addr) (c:Nat) (n:Int) (w:World) (h:SRW shI w A c xs):Calls Tryz.prog 60 #[.slice A xs.length c,.int .i64 n] w (fun e w'=>e=.returned (.bool (xs.contains n))∧w=w'):=by
 have hlen:=h.len_le
 have HT:=Hd (fun (hh:∃k,∃hk:k<xs.length,xs[k]=n)=>show xs.contains n=true by
  obtain ⟨k,hk,rfl⟩:=hh
  simp)
 have HF:=Hd (fun (hh:∀k (hk:k<xs.length),xs[k]≠n)=>show xs.contains n=false by
  rw [←Bool.not_eq_true,List.contains_iff_mem]
  intro hm
  obtain ⟨k,hk,e⟩:=List.getElem_of_mem hm
  exact hh k hk e)
 generalize xs.contains n=R at *
 go_enter Tryz.func60,Tryz.ntmps60
 go_wp2_with fail
 go_loopw [5] (fun i wr=>∃k:Nat,k≤xs.length∧i=.int .i64 k∧Hid (∀j (hj:j<xs.length),j<k→xs[j]≠n)∧wr=w) (fun i _=>xs.length-(intOf i).toNat)
 case atStart=>exact ⟨0,Nat.zero_le _,rfl,Hd (fun j hj h1=>absurd h1 (by omega)),rfl⟩
 case round =>
  obtain ⟨k,hk,rfl,HB,rfl⟩:=hrel
  by_cases hlt:k<xs.length
  ·obtain ⟨g,off,rfl,_,_,hc,hb1,hb2⟩:=h.at_I hlt
   by_cases e:xs[k]=n
   ·have he:(xs[k]==n)=true:=beq_iff_eq.2 e
    have HE:=Hd (HT.out ⟨k,hlt,e⟩)
    clear e HT HF
    go_wp2_with fail
    refine bodyPost_ret (v:=.bool true) (by simp [results,Tryz.results60,go_sem]) rfl ?_
    exact ⟨by rw [HE.out],rfl⟩
   ·have he:(xs[k]==n)=false:=beq_eq_false_iff_ne.2 e
    have HN:Hid (∀j (hj:j<xs.length),j<k+1→xs[j]≠n):=Hd (fun j hj h1=>by
     by_cases q:j=k
     ·subst q;exact e
     ·exact HB.out j hj (by omega))
    have HE:=Hd e
    clear e
    go_wp2_with fail
    go_roundw
    case rel=>exact ⟨k+1,by omega,by go_num,HN,by first | rfl | trivial⟩
    case measure=>simp [intOf];omega
  ·have HN:=Hd (HF.out (fun j (hj:j<xs.length)=>HB.out j hj (by omega)))
   obtain rfl:k=xs.length:=by omega
   clear HB HT HF
   go_wp2_with fail
   refine bodyPost_ret (v:=.bool false) (by simp [results,Tryz.results60,go_sem]) rfl ?_
   exact ⟨by rw [HN.out],rfl⟩
def depW:Option Nat→Int
 | none=>0
 | some d=>(d:Int)
theorem Only.then {bl bl1:List Nat} {a b c:World} (h:Only bl a b) (k:Only bl1 b c) (hs:∀y∈bl1,y∈bl∨a.heap.size≤y):Only bl a c :=
 ⟨k.os.trans h.os,k.tape.trans h.tape,k.output.trans h.output,Nat.le_trans h.size k.size,fun i hi hn=>(k.block i (Nat.lt_of_lt_of_le hi h.size) (fun hm=>by rcases hs i hm with h1 | h1 <;> first | exact hn h1 | omega)).trans (h.block i hi hn)⟩
structure DownR (w:World) (lo wb:Nat) (A0:Option Addr) (c0:Nat) (x:TBtree) (s:TWalk) (M:Option Addr) (cM:Nat) (bl:List Nat):Prop where
 sl:SR shSlot w 0 lo A0 c0 x.2
 h1:lo≤wb
 kw:Bk w wb 65 #[.int .i64 x.1,.slice A0 x.2.length c0,.slice M s.1.length cM,.int .i64 (depW s.2)]
 so:SO shI w lo w.heap.size M cM s.1 bl
 nd:bl.Nodup
 hb:wb∉bl
 ok:MetOk x s.1
 dk:∀d,s.2=some d→1≤d
def DownE (r:Option TWalk) (lo wb:Nat) (A0:Option Addr) (c0:Nat) (x:TBtree) (s:TWalk) (bl:List Nat) (w:World) (e:Ending) (w':World):Prop :=
 e=.returned (.bool r.isSome)∧Only (wb::bl) w w'∧∀t,r=some t→∃M cM bl',DownR w' lo wb A0 c0 x t M cM bl'∧(∀y∈bl',y∈bl∨w.heap.size≤y)
theorem DownR.up {w w':World} {lo wb:Nat} {A0:Option Addr} {c0:Nat} {x:TBtree} {s:TWalk} {M:Option Addr} {cM:Nat} {bl:List Nat} (h:DownR w lo wb A0 c0 x s M cM bl) (u:Up w w'):DownR w' lo wb A0 c0 x s M cM bl :=
 ⟨SR.keep good_Slot h.sl (u.keeps (by have:=h.kw.lt;have:=h.h1;omega)),h.h1,h.kw.up u,h.so.up good_I u,h.nd,h.hb,h.ok,h.dk⟩
theorem down_out {x:TBtree} {lo wb:Nat} {A0:Option Addr} {c0:Nat} {id:Int} {far:Nat} {low high:ByteArray} {s:TWalk} {M:Option Addr} {cM:Nat} {bl:List Nat} {w:World} (hs:SlotsP x.2) (hr:I64 x.1) (hid:I64 id) (R:DownR w lo wb A0 c0 x s M cM bl) (hf:far≤65) (ho:pgAt x id=none∨s.1.contains id=true∨far=65) :
 Calls Tryz.prog 29 #[.pointer (some ⟨wb,0,none⟩),.int .i64 id,.int .i64 (far:Int),.string low,.string high] w (DownE none lo wb A0 c0 x s bl w):=by
 have sw:SRW shSlot w A0 c0 x.2:=SR.wide good_Slot R.sl (Nat.le_refl _) (by have:=R.kw.lt;have:=R.h1;omega)
 have ca:=Hd (c_l16At (.agg #[.int .i64 x.1,.slice A0 x.2.length c0]) x id w ⟨_,rfl,mkBtree (x:=x) hr sw⟩)
 have hlen64:=slots_len hs
 have g0:World.cell? _ ⟨wb,0,none⟩=some (.int .i64 x.1):=R.kw.cell 0
 have g1:World.cell? _ ⟨wb,1,none⟩=some (.slice A0 x.2.length c0):=R.kw.cell 1
 have ho':=Hd ho
 clear ho
 go_enter Tryz.func29,Tryz.ntmps29
 go_wp2_with fail
 refine ca.out.mono ?_
 rintro e w1 ⟨n,rfl,u1,hn⟩
 rcases hn with ⟨rfl,hn⟩ | ⟨i,hi,rfl,hn⟩
 ·clear hn ho'
  go_wp2_with fail
  go_ret
  exact ⟨rfl,Only.of_up u1,fun t ht=>by cases ht⟩
 ·have hp:pgAt x id=some x.2[i].2:=by rw [←hn];exact pgAt_at hs hi
  have R1:=R.up u1
  have sm:SRW shI w1 M cM s.1:=SR.of_own good_I R1.so
  have ch:=Hd (c_l00Has s.1 M cM id w1 sm)
  have g2:World.cell? _ ⟨wb,2,none⟩=some (.slice M s.1.length cM):=R1.kw.cell 2
  have hi0:¬(i:Int)<0:=by omega
  clear g0 g1 hn
  have hp':=Hd hp
  clear hp
  cases hc:s.1.contains id
  ·rw [hc] at ch
   have hf:(64:Int)<(far:Int):=by
    rcases ho'.out with h | h | h
    ·rw [hp'.out] at h;cases h
    ·rw [hc] at h;cases h
    ·omega
   clear hc ho'
   go_wp2_with fail
   refine ch.out.mono ?_
   rintro e w2 ⟨rfl,rfl⟩
   go_wp2_with fail
   go_ret
   exact ⟨rfl,Only.of_up u1,fun t ht=>by cases ht⟩
  ·rw [hc] at ch
   clear hc ho'
   go_wp2_with fail
   refine ch.out.mono ?_
   rintro e w2 ⟨rfl,rfl⟩
   go_wp2_with fail
   go_ret
   exact ⟨rfl,Only.of_up u1,fun t ht=>by cases ht⟩
theorem keyIdx_eq:∀{l:List ByteArray} {key:ByteArray} {k:Nat},k≤l.length→(∀j (hj:j<l.length),j<k→bytesLt l[j] key=true)→(∀hk:k<l.length,bytesLt l[k] key=false)→keyIdx l key=k
 | [],_,0,_,_,_=>rfl
 | [],_,k+1,h,_,_=>absurd h (by simp)
 | a::l,key,0,_,_,h2=>by
  have:=h2 (by simp)
  simp only [List.getElem_cons_zero] at this
  unfold keyIdx
  rw [List.takeWhile_cons_of_neg (p:=fun k=>bytesLt k key) (by rw [this];decide)]
  rfl
 | a::l,key,k+1,h,h1,h2=>by
  have ha:=h1 0 (by simp) (by omega)
  simp only [List.getElem_cons_zero] at ha
  have ih:=keyIdx_eq (l:=l) (key:=key) (k:=k) (by simpa using h) (fun j hj hk=>h1 (j+1) (by simpa using hj) (by omega)) (fun hk=>h2 (by simpa using hk))
  unfold keyIdx at ih ⊢
  rw [List.takeWhile_cons_of_pos (p:=fun k=>bytesLt k key) ha,List.length_cons,ih]
theorem slots_inj {l:List TSlot} (h:SlotsP l) {i k:Nat} (hi:i<l.length) (hk:k<l.length) (e:l[i].1=l[k].1):i=k:=by
 rcases Nat.lt_trichotomy i k with q | q | q
 ·have:=slots_lt h i k hk q;omega
 ·exact q
 ·have:=slots_lt h k i hi q;omega
theorem far4 {w:World} {a:Addr} {g:Nat} (h:g≠a.block) (v0 v1 v2 v3:Value):((((w.setCell ⟨g,0,none⟩ v0).setCell ⟨g,1,none⟩ v1).setCell ⟨g,2,none⟩ v2).setCell ⟨g,3,none⟩ v3).cell? a=w.cell? a:=by
 rw [World.cell?_setCell_far _ _ _ _ h,World.cell?_setCell_far _ _ _ _ h,World.cell?_setCell_far _ _ _ _ h,World.cell?_setCell_far _ _ _ _ h]
theorem c_l16Page (cs:List Value) (y:TBtree) (id:Int) (p:TPage) (w:World) (H:Nat) (hH:H≤w.heap.size) (h:shBtree.rep w 0 H cs y) (hs:SlotsP y.2) (hp:pgAt y id=some p):Calls Tryz.prog 31 #[.agg cs.toArray,.int .i64 id] w (fun e w'=>∃cs,e=.returned (.agg cs.toArray)∧shPage.rep w' 0 H cs p∧Up w w'):=by
 obtain ⟨r,x⟩:=y
 have ho:=openBtree h
 dsimp only at ho hs
 obtain ⟨A0,c0,rfl,br,b00⟩:=ho
 clear h
 have hl64:=slots_len hs
 have kb:=(Bk.new w 28 #[.int .i64 r,.slice A0 x.length c0]).alloc (.cells #[.bool false,.slice none 0 0,.slice none 0 0,.slice none 0 0] 58)
 have kr:Bk ((w.alloc (.cells #[.int .i64 r,.slice A0 x.length c0] 28)).alloc (.cells #[.bool false,.slice none 0 0,.slice none 0 0,.slice none 0 0] 58)) (w.heap.size+1) 58 #[.bool false,.slice none 0 0,.slice none 0 0,.slice none 0 0]:=by
  simpa using Bk.new (w.alloc (.cells #[.int .i64 r,.slice A0 x.length c0] 28)) 58 #[.bool false,.slice none 0 0,.slice none 0 0,.slice none 0 0]
 have uu:Up w ((w.alloc (.cells #[.int .i64 r,.slice A0 x.length c0] 28)).alloc (.cells #[.bool false,.slice none 0 0,.slice none 0 0,.slice none 0 0] 58)):=((Up.refl _).alloc _).alloc _
 have zz:((w.alloc (.cells #[.int .i64 r,.slice A0 x.length c0] 28)).alloc (.cells #[.bool false,.slice none 0 0,.slice none 0 0,.slice none 0 0] 58)).heap.size=w.heap.size+2:=by simp
 go_enter Tryz.func31,Tryz.ntmps31
 go_wp2_with fail
 generalize ((w.alloc (.cells #[.int .i64 r,.slice A0 x.length c0] 28)).alloc (.cells #[.bool false,.slice none 0 0,.slice none 0 0,.slice none 0 0] 58))=W0 at kb kr uu zz ⊢
 have hb0:=(SR.wide good_Slot b00 (Nat.le_refl _) hH:SRW shSlot w A0 c0 x).up good_Slot uu
 have b00':=SR.keep good_Slot b00 (uu.keeps hH)
 replace kb:=kb.drew
 replace kr:=kr.drew
 have CA:=Hd (fun W (u:Up W0 W)=>c_l16At (.agg #[.int .i64 r,.slice A0 x.length c0]) (r,x) id W ⟨_,rfl,mkBtree (x:=(r,x)) br (hb0.up good_Slot u)⟩)
 obtain ⟨i,hi,hie⟩:=pgAt_some hp
 dsimp only at hi hie
 have hid1:x[i].1=id:=by rw [hie]
 have hpe:p=x[i].2:=by rw [hie]
 obtain ⟨g,off,A2,c2,A3,c3,A4,c4,hA,_,hgl,_,hc1,hc2,hc3,hc4,_,b2,b3,b4,_⟩:=atSlot b00' hi
 rw [←hpe] at hc1 hc2 hc3 hc4 b2 b3 b4
 subst hA
 have HI:=Hd (fun k (hk:k<x.length) (e:x[k].1=id)=>slots_inj hs hk hi (e.trans hid1.symm))
 have HN:=Hd (fun (h:∀k (hk:k<x.length),x[k].1≠id)=>h i hi hid1)
 clear hp hs hie hid1 hpe
 have hgw:w.heap.size+1≠g:=by omega
 replace hc1:W0.drew.cell? _=_:=hc1
 replace hc2:W0.drew.cell? _=_:=hc2
 replace hc3:W0.drew.cell? _=_:=hc3
 replace hc4:W0.drew.cell? _=_:=hc4
 go_region_held3 (fun W=>W.cell? ⟨w.heap.size,0,none⟩=some (.int .i64 r)∧W.cell? ⟨w.heap.size,1,none⟩=some (.slice (some ⟨g,off,none⟩) x.length c0)∧W.cell? ⟨g,off+i*5+1,none⟩=some (.bool p.1)∧W.cell? ⟨g,off+i*5+2,none⟩=some (.slice A2 p.2.1.length c2)∧W.cell? ⟨g,off+i*5+3,none⟩=some (.slice A3 p.2.2.1.length c3)∧W.cell? ⟨g,off+i*5+4,none⟩=some (.slice A4 p.2.2.2.length c4))
  (first | (have q0:World.cell? _ ⟨w.heap.size,0,none⟩=some (.int .i64 r):=kb.cell 0;have q1:World.cell? _ ⟨w.heap.size,1,none⟩=some (.slice (some ⟨g,off,none⟩) x.length c0):=kb.cell 1;have q2:World.cell? _ ⟨g,off+i*5+1,none⟩=some (.bool p.1):=hc1;have q3:World.cell? _ ⟨g,off+i*5+2,none⟩=some (.slice A2 p.2.1.length c2):=hc2;have q4:World.cell? _ ⟨g,off+i*5+3,none⟩=some (.slice A3 p.2.2.1.length c3):=hc3;have q5:World.cell? _ ⟨g,off+i*5+4,none⟩=some (.slice A4 p.2.2.2.length c4):=hc4;with_reducible exact ⟨q0,q1,q2,q3,q4,q5⟩) | (have q0:World.cell? _ ⟨w.heap.size,0,none⟩=some (.int .i64 r):=kb.cell 0;have q1:World.cell? _ ⟨w.heap.size,1,none⟩=some (.slice (some ⟨g,off,none⟩) x.length c0):=kb.cell 1;have q2:World.cell? _ ⟨g,off+i*5+1,none⟩=some (.bool p.1):=hd1;have q3:World.cell? _ ⟨g,off+i*5+2,none⟩=some (.slice A2 p.2.1.length c2):=hd2;have q4:World.cell? _ ⟨g,off+i*5+3,none⟩=some (.slice A3 p.2.2.1.length c3):=hd3;have q5:World.cell? _ ⟨g,off+i*5+4,none⟩=some (.slice A4 p.2.2.2.length c4):=hd4;with_reducible exact ⟨q0,q1,q2,q3,q4,q5⟩) | (have q0:World.cell? _ ⟨w.heap.size,0,none⟩=some (.int .i64 r):=(far4 (g:=w.heap.size+1) (a:=⟨w.heap.size,0,none⟩) (by dsimp only;omega) (.bool p.1) (.slice A2 p.2.1.length c2) (.slice A3 p.2.2.1.length c3) (.slice A4 p.2.2.2.length c4)).trans (kb.cell 0);have q1:World.cell? _ ⟨w.heap.size,1,none⟩=some (.slice (some ⟨g,off,none⟩) x.length c0):=(far4 (g:=w.heap.size+1) (a:=⟨w.heap.size,1,none⟩) (by dsimp only;omega) (.bool p.1) (.slice A2 p.2.1.length c2) (.slice A3 p.2.2.1.length c3) (.slice A4 p.2.2.2.length c4)).trans (kb.cell 1);have q2:World.cell? _ ⟨g,off+i*5+1,none⟩=some (.bool p.1):=(far4 (g:=w.heap.size+1) (a:=⟨g,off+i*5+1,none⟩) (by dsimp only;omega) (.bool p.1) (.slice A2 p.2.1.length c2) (.slice A3 p.2.2.1.length c3) (.slice A4 p.2.2.2.length c4)).trans (hd1);have q3:World.cell? _ ⟨g,off+i*5+2,none⟩=some (.slice A2 p.2.1.length c2):=(far4 (g:=w.heap.size+1) (a:=⟨g,off+i*5+2,none⟩) (by dsimp only;omega) (.bool p.1) (.slice A2 p.2.1.length c2) (.slice A3 p.2.2.1.length c3) (.slice A4 p.2.2.2.length c4)).trans (hd2);have q4:World.cell? _ ⟨g,off+i*5+3,none⟩=some (.slice A3 p.2.2.1.length c3):=(far4 (g:=w.heap.size+1) (a:=⟨g,off+i*5+3,none⟩) (by dsimp only;omega) (.bool p.1) (.slice A2 p.2.1.length c2) (.slice A3 p.2.2.1.length c3) (.slice A4 p.2.2.2.length c4)).trans (hd3);have q5:World.cell? _ ⟨g,off+i*5+4,none⟩=some (.slice A4 p.2.2.2.length c4):=(far4 (g:=w.heap.size+1) (a:=⟨g,off+i*5+4,none⟩) (by dsimp only;omega) (.bool p.1) (.slice A2 p.2.1.length c2) (.slice A3 p.2.2.1.length c3) (.slice A4 p.2.2.2.length c4)).trans (hd4);with_reducible exact ⟨q0,q1,q2,q3,q4,q5⟩))
  (first
   | (go_at_call 59
      refine (CA.out _ (Up.refl W0).drew).mono ?_
      rintro e w1 ⟨n,rfl,u1,hn⟩
      replace kb:=kb.up u1
      replace kr:=kr.up u1
      have uF:=uu.drew.trans u1
      have z1:=u1.size
      have hni:n=(i:Int):=by
       rcases hn with ⟨_,hn⟩ | ⟨k,hk,e,he⟩
       ·exact (HN.out hn).elim
       ·rw [e,HI.out k hk he]
      subst hni
      clear hn
      have uH:=(Up.refl W0).drew.trans u1
      have hd1:w1.cell? _=_:=(u1.cell (cell_lt hc1)).trans hc1
      have hd2:w1.cell? _=_:=(u1.cell (cell_lt hc2)).trans hc2
      have hd3:w1.cell? _=_:=(u1.cell (cell_lt hc3)).trans hc3
      have hd4:w1.cell? _=_:=(u1.cell (cell_lt hc4)).trans hc4
      have gr0:w1.cell? ⟨w.heap.size+1,0,none⟩=some (.bool false):=kr.cell 0
      have fr0:=kr.frozen 0
      have gr1:w1.cell? ⟨w.heap.size+1,1,none⟩=some (.slice none 0 0):=kr.cell 1
      have fr1:=kr.frozen 1
      have gr2:w1.cell? ⟨w.heap.size+1,2,none⟩=some (.slice none 0 0):=kr.cell 2
      have fr2:=kr.frozen 2
      have gr3:w1.cell? ⟨w.heap.size+1,3,none⟩=some (.slice none 0 0):=kr.cell 3
      have fr3:=kr.frozen 3))
 have bt:But (w.heap.size+1) w1 ((((w1.setCell ⟨w.heap.size+1,0,none⟩ (.bool p.1)).setCell ⟨w.heap.size+1,1,none⟩ (.slice A2 p.2.1.length c2)).setCell ⟨w.heap.size+1,2,none⟩ (.slice A3 p.2.2.1.length c3)).setCell ⟨w.heap.size+1,3,none⟩ (.slice A4 p.2.2.2.length c4)):=But.sets (g:=w.heap.size+1) [.bool p.1,.slice A2 p.2.1.length c2,.slice A3 p.2.2.1.length c3,.slice A4 p.2.2.2.length c4] w1 0
 have krE:Bk ((((w1.setCell ⟨w.heap.size+1,0,none⟩ (.bool p.1)).setCell ⟨w.heap.size+1,1,none⟩ (.slice A2 p.2.1.length c2)).setCell ⟨w.heap.size+1,2,none⟩ (.slice A3 p.2.2.1.length c3)).setCell ⟨w.heap.size+1,3,none⟩ (.slice A4 p.2.2.2.length c4)) (w.heap.size+1) 58 #[.bool p.1,.slice A2 p.2.1.length c2,.slice A3 p.2.2.1.length c3,.slice A4 p.2.2.2.length c4]:=kr.setsL [.bool p.1,.slice A2 p.2.1.length c2,.slice A3 p.2.2.1.length c3,.slice A4 p.2.2.2.length c4] 0
 generalize ((((w1.setCell ⟨w.heap.size+1,0,none⟩ (.bool p.1)).setCell ⟨w.heap.size+1,1,none⟩ (.slice A2 p.2.1.length c2)).setCell ⟨w.heap.size+1,2,none⟩ (.slice A3 p.2.2.1.length c3)).setCell ⟨w.heap.size+1,3,none⟩ (.slice A4 p.2.2.2.length c4))=W4 at bt krE ⊢
 clear gr0 fr0 gr1 fr1 gr2 fr2 gr3 fr3
 go_wp2_with fail
 refine bodyPost_ret (results_bk krE _ _ Tryz.results31 rfl Tryz.underlying58 rfl (by kernel_rfl)) rfl ?_
 have u4:=uF.but bt (by omega)
 have kp:Keeps 0 H W0 W4:=fun y _ h2=>(bt.block y (by omega)).trans (uH.block y (by omega))
 exact ⟨_,rfl,mkPage (x:=p) (SR.keep good_S b2 kp) (SR.keep good_S b3 kp) (SR.keep good_I b4 kp),u4⟩
end Go.Proofs.YtojmcmghmnfjeaaGreatDoor
