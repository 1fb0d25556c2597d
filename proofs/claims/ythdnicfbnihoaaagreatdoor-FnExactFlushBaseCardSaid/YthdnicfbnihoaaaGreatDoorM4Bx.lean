/-
 The walk over a tree of pages: the reference's.
-/
import Derived.Test.YthdnicfbnihoaaaGreatDoorM4Bp
import Derived.Test.YthdnicfbnihoaaaGreatDoorM4A
import Derived.Test.YthdnicfbnihoaaaGreatDoorM4J
set_option maxHeartbeats 4000000
set_option maxRecDepth 100000
namespace Go.Proofs.YthdnicfbnihoaaaGreatDoor
open Go.RowKit
set_option linter.unusedVariables false
set_option linter.unusedSimpArgs false
def AtP (y:TBtree) (id:Int) (w:World) (e:Ending) (w':World):Prop :=
 ∃n:Int,e=.returned (.int .i64 n)∧Up w w'∧((n=-1∧∀i (hi:i<y.2.length),y.2[i].1≠id)∨∃i,∃hi:i<y.2.length,n=(i:Int)∧y.2[i].1=id)
theorem c_l16At (v:Value) (y:TBtree) (id:Int) (w:World) (h:AV shBtree w v y):Calls Tryz.prog 122 #[v,.int .i64 id] w (AtP y id w):=by
 obtain ⟨cs,rfl,h⟩:=h
 obtain ⟨r,x⟩:=y
 have ho:=openBtree h
 dsimp only at ho
 obtain ⟨A0,c0,rfl,br,b00⟩:=ho
 clear h
 have hlen:=b00.len_le
 have kT0:=Bk.new w 42 #[.int .i64 r,.slice A0 x.length c0]
 have uu0:Up w (w.alloc (.cells #[.int .i64 r,.slice A0 x.length c0] 42)):=(Up.refl w).alloc _
 go_enter Tryz.func122,Tryz.ntmps122
 go_wp2_with fail
 go_loopw [5] (fun i wr=>∃k:Nat,k≤x.length∧i=.int .i64 k∧Hid (∀j (hj:j<x.length),j<k→x[j].1≠id)∧wr=(w.alloc (.cells #[.int .i64 r,.slice A0 x.length c0] 42))) (fun i _=>x.length - (intOf i).toNat)
 case atStart=>exact ⟨0,Nat.zero_le _,rfl,Lib.hid (fun j hj h1=>absurd h1 (by omega)),rfl⟩
 case round =>
   obtain ⟨k,hk,rfl,HB,rfl⟩:=hrel
   generalize (w.alloc (.cells #[.int .i64 r,.slice A0 x.length c0] 42))=W0 at kT0 uu0 ⊢
   have gT:W0.cell? ⟨w.heap.size,1,none⟩=some (.slice A0 x.length c0):=kT0.cell 1
   by_cases hlt:k<x.length
   · obtain ⟨g,off,A2,c2,A3,c3,A4,c4,hA,_,hgl,hc0,hc1,hc2,hc3,hc4,b0,b2,b3,b4,_⟩:=atSlot (b00.up good_Slot uu0) hlt
     subst hA
     clear hc1 hc2 hc3 hc4 b2 b3 b4
     by_cases e:x[k].1=id
     · have he:(x[k].1 == id)=true:=beq_iff_eq.2 e
       have HE:=Lib.hid e
       clear e
       go_wp2_with fail
       go_ret
       exact ⟨k,rfl,uu0,.inr ⟨k,hlt,rfl,HE.out⟩⟩
     · have he:(x[k].1 == id)=false:=beq_eq_false_iff_ne.2 e
       have HN:Hid (∀j (hj:j<x.length),j<k+1→x[j].1≠id):=Lib.hid (fun j hj h1=>by
         by_cases q:j=k
         · subst q;exact e
         · exact HB.out j hj (by omega))
       have HE:=Lib.hid e
       clear e
       go_wp2_with fail
       go_roundw
       case rel=>exact ⟨k+1,by omega,by go_num,HN,by first | rfl | trivial⟩
       case measure=>simp [intOf];omega
   · have HN:=Lib.hid (fun j (hj:j<x.length)=>HB.out j hj (by omega))
     obtain rfl:k=x.length:=by omega
     clear HB
     go_wp2_with fail
     go_ret
     exact ⟨-1,rfl,uu0,.inl ⟨rfl,HN.out⟩⟩
theorem c_l00Has (xs:List Int) (A:Option Addr) (c:Nat) (n:Int) (w:World) (h:SRW shI w A c xs):Calls Tryz.prog 123 #[.slice A xs.length c,.int .i64 n] w (fun e w'=>e=.returned (.bool (xs.contains n))∧w=w'):=by
 have hlen:=h.len_le
 have HT:=Lib.hid (fun (hh:∃k,∃hk:k<xs.length,xs[k]=n)=>show xs.contains n=true by
   obtain ⟨k,hk,rfl⟩:=hh
   simp)
 have HF:=Lib.hid (fun (hh:∀k (hk:k<xs.length),xs[k]≠n)=>show xs.contains n=false by
   rw [← Bool.not_eq_true,List.contains_iff_mem]
   intro hm
   obtain ⟨k,hk,e⟩:=List.getElem_of_mem hm
   exact hh k hk e)
 generalize xs.contains n=R at *
 go_enter Tryz.func123,Tryz.ntmps123
 go_wp2_with fail
 go_loopw [5] (fun i wr=>∃k:Nat,k≤xs.length∧i=.int .i64 k∧Hid (∀j (hj:j<xs.length),j<k→xs[j]≠n)∧wr=w) (fun i _=>xs.length - (intOf i).toNat)
 case atStart=>exact ⟨0,Nat.zero_le _,rfl,Lib.hid (fun j hj h1=>absurd h1 (by omega)),rfl⟩
 case round =>
   obtain ⟨k,hk,rfl,HB,rfl⟩:=hrel
   by_cases hlt:k<xs.length
   · obtain ⟨g,off,rfl,_,_,hc,hb1,hb2⟩:=h.at_I hlt
     by_cases e:xs[k]=n
     · have he:(xs[k] == n)=true:=beq_iff_eq.2 e
       have HE:=Lib.hid (HT.out ⟨k,hlt,e⟩)
       clear e HT HF
       go_wp2_with fail
       refine bodyPost_ret (v:=.bool true) (by simp [results,Tryz.results123,go_sem]) rfl ?_
       exact ⟨by rw [HE.out],rfl⟩
     · have he:(xs[k] == n)=false:=beq_eq_false_iff_ne.2 e
       have HN:Hid (∀j (hj:j<xs.length),j<k+1→xs[j]≠n):=Lib.hid (fun j hj h1=>by
         by_cases q:j=k
         · subst q;exact e
         · exact HB.out j hj (by omega))
       have HE:=Lib.hid e
       clear e
       go_wp2_with fail
       go_roundw
       case rel=>exact ⟨k+1,by omega,by go_num,HN,by first | rfl | trivial⟩
       case measure=>simp [intOf];omega
   · have HN:=Lib.hid (HF.out (fun j (hj:j<xs.length)=>HB.out j hj (by omega)))
     obtain rfl:k=xs.length:=by omega
     clear HB HT HF
     go_wp2_with fail
     refine bodyPost_ret (v:=.bool false) (by simp [results,Tryz.results123,go_sem]) rfl ?_
     exact ⟨by rw [HN.out],rfl⟩
def depW:Option Nat→Int
 | none=>0
 | some d=>(d:Int)
theorem Only.then {bl bl1:List Nat} {a b c:World} (h:Only bl a b) (k:Only bl1 b c) (hs:∀y∈bl1,y∈bl∨a.heap.size≤y):Only bl a c :=
 ⟨k.os.trans h.os,k.tape.trans h.tape,k.output.trans h.output,Nat.le_trans h.size k.size,fun i hi hn=>(k.block i (Nat.lt_of_lt_of_le hi h.size) (fun hm=>by rcases hs i hm with h1 | h1 <;> first | exact hn h1 | omega)).trans (h.block i hi hn)⟩
structure DownR (w:World) (lo wb:Nat) (A0:Option Addr) (c0:Nat) (x:TBtree) (s:TWalk) (M:Option Addr) (cM:Nat) (bl:List Nat):Prop where
 sl:SR shSlot w 0 lo A0 c0 x.2
 h1:lo≤wb
 kw:Bk w wb 118 #[.int .i64 x.1,.slice A0 x.2.length c0,.slice M s.1.length cM,.int .i64 (depW s.2)]
 so:SO shI w lo w.heap.size M cM s.1 bl
 nd:bl.Nodup
 hb:wb ∉ bl
 ok:MetOk x s.1
 dk:∀d,s.2=some d→1≤d
def DownE (r:Option TWalk) (lo wb:Nat) (A0:Option Addr) (c0:Nat) (x:TBtree) (s:TWalk) (bl:List Nat) (w:World) (e:Ending) (w':World):Prop :=
 e=.returned (.bool r.isSome)∧Only (wb::bl) w w'∧∀t,r=some t→∃M cM bl',DownR w' lo wb A0 c0 x t M cM bl'∧(∀y∈bl',y∈bl∨w.heap.size≤y)
theorem DownR.up {w w':World} {lo wb:Nat} {A0:Option Addr} {c0:Nat} {x:TBtree} {s:TWalk} {M:Option Addr} {cM:Nat} {bl:List Nat} (h:DownR w lo wb A0 c0 x s M cM bl) (u:Up w w'):DownR w' lo wb A0 c0 x s M cM bl :=
 ⟨SR.keep good_Slot h.sl (u.keeps (by have:=h.kw.lt;have:=h.h1;omega)),h.h1,h.kw.up u,h.so.up good_I u,h.nd,h.hb,h.ok,h.dk⟩
theorem down_out {x:TBtree} {lo wb:Nat} {A0:Option Addr} {c0:Nat} {id:Int} {far:Nat} {low high:ByteArray} {s:TWalk} {M:Option Addr} {cM:Nat} {bl:List Nat} {w:World} (hs:SlotsP x.2) (hr:I64 x.1) (hid:I64 id) (R:DownR w lo wb A0 c0 x s M cM bl) (hf:far≤65) (ho:pgAt x id=none∨s.1.contains id=true∨far=65) :
   Calls Tryz.prog 76 #[.pointer (some ⟨wb,0,none⟩),.int .i64 id,.int .i64 (far:Int),.string low,.string high] w (DownE none lo wb A0 c0 x s bl w):=by
 have sw:SRW shSlot w A0 c0 x.2:=SR.wide good_Slot R.sl (Nat.le_refl _) (by have:=R.kw.lt;have:=R.h1;omega)
 have ca:=Lib.hid (c_l16At (.agg #[.int .i64 x.1,.slice A0 x.2.length c0]) x id w ⟨_,rfl,mkBtree (x:=x) hr sw⟩)
 have hlen64:=slots_len hs
 have g0:World.cell? _ ⟨wb,0,none⟩=some (.int .i64 x.1):=R.kw.cell 0
 have g1:World.cell? _ ⟨wb,1,none⟩=some (.slice A0 x.2.length c0):=R.kw.cell 1
 have ho':=Lib.hid ho
 clear ho
 go_enter Tryz.func76,Tryz.ntmps76
 go_wp2_with fail
 refine ca.out.mono ?_
 rintro e w1 ⟨n,rfl,u1,hn⟩
 rcases hn with ⟨rfl,hn⟩ | ⟨i,hi,rfl,hn⟩
 · clear hn ho'
   go_wp2_with fail
   go_ret
   exact ⟨rfl,Only.of_up u1,fun t ht=>by cases ht⟩
 · have hp:pgAt x id=some x.2[i].2:=by rw [← hn];exact pgAt_at hs hi
   have R1:=R.up u1
   have sm:SRW shI w1 M cM s.1:=SR.of_own good_I R1.so
   have ch:=Lib.hid (c_l00Has s.1 M cM id w1 sm)
   have g2:World.cell? _ ⟨wb,2,none⟩=some (.slice M s.1.length cM):=R1.kw.cell 2
   have hi0:¬ (i:Int)<0:=by omega
   clear g0 g1 hn
   have hp':=Lib.hid hp
   clear hp
   cases hc:s.1.contains id
   · rw [hc] at ch
     have hf:(64:Int)<(far:Int):=by
       rcases ho'.out with h | h | h
       · rw [hp'.out] at h;cases h
       · rw [hc] at h;cases h
       · omega
     clear hc ho'
     go_wp2_with fail
     refine ch.out.mono ?_
     rintro e w2 ⟨rfl,rfl⟩
     go_wp2_with fail
     go_ret
     exact ⟨rfl,Only.of_up u1,fun t ht=>by cases ht⟩
   · rw [hc] at ch
     clear hc ho'
     go_wp2_with fail
     refine ch.out.mono ?_
     rintro e w2 ⟨rfl,rfl⟩
     go_wp2_with fail
     go_ret
     exact ⟨rfl,Only.of_up u1,fun t ht=>by cases ht⟩
end Go.Proofs.YthdnicfbnihoaaaGreatDoor
