/-
 Parts of the proof.
-/
import Derived.Test.YtojmcmghmnfjeaaGreatDoorM1D
set_option maxHeartbeats 8000000
set_option maxRecDepth 100000
namespace Go.Proofs.YtojmcmghmnfjeaaGreatDoor
open Go.RowKit
set_option linter.unusedSimpArgs false
abbrev TSeat:Type:=Int×Int
def shSeat:Sh TSeat:=(shP shI shI)
theorem good_Seat:Good shSeat:=(good_P good_I good_I)
theorem openSeat {w:World} {lo hi:Nat} {cs:List Value} {x:TSeat} (h:shSeat.rep w lo hi cs x) :
 cs=[.int .i64 x.1,.int .i64 x.2]∧I64 x.1∧I64 x.2:=by
 obtain ⟨p1,q1,rfl,l1,r1⟩:=open_P h
 obtain ⟨rfl,b0⟩:=l1
 obtain ⟨rfl,b1⟩:=r1
 exact ⟨rfl,b0,b1⟩
theorem mkOSeat {w:World} {lo hi:Nat} {x:TSeat} (b0:I64 x.1) (b1:I64 x.2):shSeat.own w lo hi [.int .i64 x.1,.int .i64 x.2] x ([]):=by
 have h:shSeat.own w lo hi [.int .i64 x.1,.int .i64 x.2] x _:=(mkO_P good_I ⟨⟨rfl,b0⟩,rfl⟩ ⟨⟨rfl,b1⟩,rfl⟩)
 simpa using h
theorem atSeat {w:World} {lo hi:Nat} {A:Option Addr} {c:Nat} {xs:List TSeat} (h:SR shSeat w lo hi A c xs) {i:Nat} (hi':i<xs.length) :
 ∃(g off:Nat),A=some ⟨g,off,none⟩∧lo≤g∧g<hi∧w.cell? ⟨g,off+i*2,none⟩=some (.int .i64 xs[i].1)∧w.cell? ⟨g,off+i*2+1,none⟩=some (.int .i64 xs[i].2)∧I64 xs[i].1∧I64 xs[i].2∧True:=by
 obtain ⟨g,off,cs,hA,h1,h2,hc,hr⟩:=h.at_ hi'
 obtain ⟨rfl,b0,b1⟩:=openSeat hr
 exact ⟨g,off,hA,h1,h2,hc.2 0 (by decide),hc.2 1 (by decide),b0,b1,trivial⟩
abbrev TPage:Type:=Bool×(List ByteArray)×(List ByteArray)×(List Int)
def shPage:Sh TPage:=(shP shB (shP (shL shS) (shP (shL shS) (shL shI))))
theorem good_Page:Good shPage:=(good_P good_B (good_P (good_L good_S) (good_P (good_L good_S) (good_L good_I))))
theorem openPage {w:World} {lo hi:Nat} {cs:List Value} {x:TPage} (h:shPage.rep w lo hi cs x) :
 ∃(A1:Option Addr) (c1:Nat) (A2:Option Addr) (c2:Nat) (A3:Option Addr) (c3:Nat),cs=[.bool x.1,.slice A1 x.2.1.length c1,.slice A2 x.2.2.1.length c2,.slice A3 x.2.2.2.length c3]∧SR shS w lo hi A1 c1 x.2.1∧SR shS w lo hi A2 c2 x.2.2.1∧SR shI w lo hi A3 c3 x.2.2.2:=by
 obtain ⟨p1,q1,rfl,l1,r1⟩:=open_P h
 obtain rfl:=l1
 obtain ⟨p2,q2,rfl,l2,r2⟩:=open_P r1
 obtain ⟨A1,c1,rfl,b1⟩:=l2
 obtain ⟨p3,q3,rfl,l3,r3⟩:=open_P r2
 obtain ⟨A2,c2,rfl,b2⟩:=l3
 obtain ⟨A3,c3,rfl,b3⟩:=r3
 exact ⟨A1,c1,A2,c2,A3,c3,rfl,b1,b2,b3⟩
theorem mkPage {w:World} {lo hi:Nat} {x:TPage} {A1:Option Addr} {c1:Nat} {A2:Option Addr} {c2:Nat} {A3:Option Addr} {c3:Nat} (b1:SR shS w lo hi A1 c1 x.2.1) (b2:SR shS w lo hi A2 c2 x.2.2.1) (b3:SR shI w lo hi A3 c3 x.2.2.2):shPage.rep w lo hi [.bool x.1,.slice A1 x.2.1.length c1,.slice A2 x.2.2.1.length c2,.slice A3 x.2.2.2.length c3] x :=
 (mk_P good_B rfl (mk_P (good_L good_S) ⟨A1,c1,rfl,b1⟩ (mk_P (good_L good_S) ⟨A2,c2,rfl,b2⟩ ⟨A3,c3,rfl,b3⟩)))
theorem openOPage {w:World} {lo hi:Nat} {cs:List Value} {x:TPage} {bl:List Nat} (h:shPage.own w lo hi cs x bl) :
 ∃(A1:Option Addr) (c1:Nat) (bl1:List Nat) (A2:Option Addr) (c2:Nat) (bl2:List Nat) (A3:Option Addr) (c3:Nat) (bl3:List Nat),cs=[.bool x.1,.slice A1 x.2.1.length c1,.slice A2 x.2.2.1.length c2,.slice A3 x.2.2.2.length c3]∧bl=bl1++bl2++bl3∧SO shS w lo hi A1 c1 x.2.1 bl1∧SO shS w lo hi A2 c2 x.2.2.1 bl2∧SO shI w lo hi A3 c3 x.2.2.2 bl3:=by
 obtain ⟨p1,q1,_,_,rfl,rfl,l1,r1⟩:=openO_P h
 obtain ⟨rfl,rfl⟩:=l1
 obtain ⟨p2,q2,_,_,rfl,rfl,l2,r2⟩:=openO_P r1
 obtain ⟨A1,c1,rfl,b1⟩:=l2
 obtain ⟨p3,q3,_,_,rfl,rfl,l3,r3⟩:=openO_P r2
 obtain ⟨A2,c2,rfl,b2⟩:=l3
 obtain ⟨A3,c3,rfl,b3⟩:=r3
 exact ⟨A1,c1,_,A2,c2,_,A3,c3,_,rfl,by simp,b1,b2,b3⟩
abbrev TSlot:Type:=Int×TPage
def shSlot:Sh TSlot:=(shP shI shPage)
theorem good_Slot:Good shSlot:=(good_P good_I good_Page)
theorem openSlot {w:World} {lo hi:Nat} {cs:List Value} {x:TSlot} (h:shSlot.rep w lo hi cs x) :
 ∃(A2:Option Addr) (c2:Nat) (A3:Option Addr) (c3:Nat) (A4:Option Addr) (c4:Nat),cs=[.int .i64 x.1,.bool x.2.1,.slice A2 x.2.2.1.length c2,.slice A3 x.2.2.2.1.length c3,.slice A4 x.2.2.2.2.length c4]∧I64 x.1∧SR shS w lo hi A2 c2 x.2.2.1∧SR shS w lo hi A3 c3 x.2.2.2.1∧SR shI w lo hi A4 c4 x.2.2.2.2:=by
 obtain ⟨p1,q1,rfl,l1,r1⟩:=open_P h
 obtain ⟨rfl,b0⟩:=l1
 obtain ⟨p2,q2,rfl,l2,r2⟩:=open_P r1
 obtain rfl:=l2
 obtain ⟨p3,q3,rfl,l3,r3⟩:=open_P r2
 obtain ⟨A2,c2,rfl,b2⟩:=l3
 obtain ⟨p4,q4,rfl,l4,r4⟩:=open_P r3
 obtain ⟨A3,c3,rfl,b3⟩:=l4
 obtain ⟨A4,c4,rfl,b4⟩:=r4
 exact ⟨A2,c2,A3,c3,A4,c4,rfl,b0,b2,b3,b4⟩
theorem mkSlot {w:World} {lo hi:Nat} {x:TSlot} {A2:Option Addr} {c2:Nat} {A3:Option Addr} {c3:Nat} {A4:Option Addr} {c4:Nat} (b0:I64 x.1) (b2:SR shS w lo hi A2 c2 x.2.2.1) (b3:SR shS w lo hi A3 c3 x.2.2.2.1) (b4:SR shI w lo hi A4 c4 x.2.2.2.2):shSlot.rep w lo hi [.int .i64 x.1,.bool x.2.1,.slice A2 x.2.2.1.length c2,.slice A3 x.2.2.2.1.length c3,.slice A4 x.2.2.2.2.length c4] x :=
 (mk_P good_I ⟨rfl,b0⟩ (mk_P good_B rfl (mk_P (good_L good_S) ⟨A2,c2,rfl,b2⟩ (mk_P (good_L good_S) ⟨A3,c3,rfl,b3⟩ ⟨A4,c4,rfl,b4⟩))))
theorem openOSlot {w:World} {lo hi:Nat} {cs:List Value} {x:TSlot} {bl:List Nat} (h:shSlot.own w lo hi cs x bl) :
 ∃(A2:Option Addr) (c2:Nat) (bl2:List Nat) (A3:Option Addr) (c3:Nat) (bl3:List Nat) (A4:Option Addr) (c4:Nat) (bl4:List Nat),cs=[.int .i64 x.1,.bool x.2.1,.slice A2 x.2.2.1.length c2,.slice A3 x.2.2.2.1.length c3,.slice A4 x.2.2.2.2.length c4]∧bl=bl2++bl3++bl4∧I64 x.1∧SO shS w lo hi A2 c2 x.2.2.1 bl2∧SO shS w lo hi A3 c3 x.2.2.2.1 bl3∧SO shI w lo hi A4 c4 x.2.2.2.2 bl4:=by
 obtain ⟨p1,q1,_,_,rfl,rfl,l1,r1⟩:=openO_P h
 obtain ⟨⟨rfl,b0⟩,rfl⟩:=l1
 obtain ⟨p2,q2,_,_,rfl,rfl,l2,r2⟩:=openO_P r1
 obtain ⟨rfl,rfl⟩:=l2
 obtain ⟨p3,q3,_,_,rfl,rfl,l3,r3⟩:=openO_P r2
 obtain ⟨A2,c2,rfl,b2⟩:=l3
 obtain ⟨p4,q4,_,_,rfl,rfl,l4,r4⟩:=openO_P r3
 obtain ⟨A3,c3,rfl,b3⟩:=l4
 obtain ⟨A4,c4,rfl,b4⟩:=r4
 exact ⟨A2,c2,_,A3,c3,_,A4,c4,_,rfl,by simp,b0,b2,b3,b4⟩
theorem mkOSlot {w:World} {lo hi:Nat} {x:TSlot} {A2:Option Addr} {c2:Nat} {bl2:List Nat} {A3:Option Addr} {c3:Nat} {bl3:List Nat} {A4:Option Addr} {c4:Nat} {bl4:List Nat} (b0:I64 x.1) (b2:SO shS w lo hi A2 c2 x.2.2.1 bl2) (b3:SO shS w lo hi A3 c3 x.2.2.2.1 bl3) (b4:SO shI w lo hi A4 c4 x.2.2.2.2 bl4):shSlot.own w lo hi [.int .i64 x.1,.bool x.2.1,.slice A2 x.2.2.1.length c2,.slice A3 x.2.2.2.1.length c3,.slice A4 x.2.2.2.2.length c4] x (bl2++bl3++bl4):=by
 have h:shSlot.own w lo hi [.int .i64 x.1,.bool x.2.1,.slice A2 x.2.2.1.length c2,.slice A3 x.2.2.2.1.length c3,.slice A4 x.2.2.2.2.length c4] x _:=(mkO_P good_I ⟨⟨rfl,b0⟩,rfl⟩ (mkO_P good_B ⟨rfl,rfl⟩ (mkO_P (good_L good_S) ⟨A2,c2,rfl,b2⟩ (mkO_P (good_L good_S) ⟨A3,c3,rfl,b3⟩ ⟨A4,c4,rfl,b4⟩))))
 simpa using h
theorem atSlot {w:World} {lo hi:Nat} {A:Option Addr} {c:Nat} {xs:List TSlot} (h:SR shSlot w lo hi A c xs) {i:Nat} (hi':i<xs.length) :
 ∃(g off:Nat) (A2:Option Addr) (c2:Nat) (A3:Option Addr) (c3:Nat) (A4:Option Addr) (c4:Nat),A=some ⟨g,off,none⟩∧lo≤g∧g<hi∧w.cell? ⟨g,off+i*5,none⟩=some (.int .i64 xs[i].1)∧w.cell? ⟨g,off+i*5+1,none⟩=some (.bool xs[i].2.1)∧w.cell? ⟨g,off+i*5+2,none⟩=some (.slice A2 xs[i].2.2.1.length c2)∧w.cell? ⟨g,off+i*5+3,none⟩=some (.slice A3 xs[i].2.2.2.1.length c3)∧w.cell? ⟨g,off+i*5+4,none⟩=some (.slice A4 xs[i].2.2.2.2.length c4)∧I64 xs[i].1∧SR shS w lo hi A2 c2 xs[i].2.2.1∧SR shS w lo hi A3 c3 xs[i].2.2.2.1∧SR shI w lo hi A4 c4 xs[i].2.2.2.2∧True:=by
 obtain ⟨g,off,cs,hA,h1,h2,hc,hr⟩:=h.at_ hi'
 obtain ⟨A2,c2,A3,c3,A4,c4,rfl,b0,b2,b3,b4⟩:=openSlot hr
 exact ⟨g,off,A2,c2,A3,c3,A4,c4,hA,h1,h2,hc.2 0 (by decide),hc.2 1 (by decide),hc.2 2 (by decide),hc.2 3 (by decide),hc.2 4 (by decide),b0,b2,b3,b4,trivial⟩
abbrev TBtree:Type:=Int×(List TSlot)
def shBtree:Sh TBtree:=(shP shI (shL shSlot))
theorem good_Btree:Good shBtree:=(good_P good_I (good_L good_Slot))
theorem openBtree {w:World} {lo hi:Nat} {cs:List Value} {x:TBtree} (h:shBtree.rep w lo hi cs x) :
 ∃(A1:Option Addr) (c1:Nat),cs=[.int .i64 x.1,.slice A1 x.2.length c1]∧I64 x.1∧SR shSlot w lo hi A1 c1 x.2:=by
 obtain ⟨p1,q1,rfl,l1,r1⟩:=open_P h
 obtain ⟨rfl,b0⟩:=l1
 obtain ⟨A1,c1,rfl,b1⟩:=r1
 exact ⟨A1,c1,rfl,b0,b1⟩
theorem mkBtree {w:World} {lo hi:Nat} {x:TBtree} {A1:Option Addr} {c1:Nat} (b0:I64 x.1) (b1:SR shSlot w lo hi A1 c1 x.2):shBtree.rep w lo hi [.int .i64 x.1,.slice A1 x.2.length c1] x :=
 (mk_P good_I ⟨rfl,b0⟩ ⟨A1,c1,rfl,b1⟩)
theorem openOBtree {w:World} {lo hi:Nat} {cs:List Value} {x:TBtree} {bl:List Nat} (h:shBtree.own w lo hi cs x bl) :
 ∃(A1:Option Addr) (c1:Nat) (bl1:List Nat),cs=[.int .i64 x.1,.slice A1 x.2.length c1]∧bl=bl1∧I64 x.1∧SO shSlot w lo hi A1 c1 x.2 bl1:=by
 obtain ⟨p1,q1,_,_,rfl,rfl,l1,r1⟩:=openO_P h
 obtain ⟨⟨rfl,b0⟩,rfl⟩:=l1
 obtain ⟨A1,c1,rfl,b1⟩:=r1
 exact ⟨A1,c1,_,rfl,by simp,b0,b1⟩
abbrev TNode:Type:=ByteArray×(List ByteArray)×ByteArray
abbrev TTree:Type:=(List TNode)
abbrev TImage:Type:=ByteArray×(List ByteArray)×Bool×ByteArray×Bool×ByteArray
end Go.Proofs.YtojmcmghmnfjeaaGreatDoor
namespace Go.Proofs.YtojmcmghmnfjeaaGreatDoor
open Go.RowKit
set_option linter.unusedVariables false
theorem any_take_succ {α:Type} (p:α→Bool) (xs:List α) (k:Nat) (h:k<xs.length):(xs.take (k+1)).any p=((xs.take k).any p||p xs[k]):=by
 rw [List.take_succ_eq_append_getElem h,List.any_append];simp
theorem any_at {α:Type} (p:α→Bool) (xs:List α) (k:Nat) (h:k<xs.length) (hp:p xs[k]=true):xs.any p=true:=List.any_eq_true.2 ⟨_,List.getElem_mem h,hp⟩
theorem any_all {α:Type} (p:α→Bool) (xs:List α) (k:Nat) (h:(xs.take k).any p=false) (hk:xs.length≤k):xs.any p=false:=by rwa [List.take_of_length_le hk] at h
def IdxP {α:Type} (p:α→Bool) (xs:List α) (w:World) (e:Ending) (w':World):Prop :=
 ∃n:Int,e=.returned (.int .i64 n)∧Up w w'∧((n=-1∧xs.any p=false)∨∃i:Nat,n=i∧∃h:i<xs.length,p xs[i]=true∧(xs.take i).any p=false)
def BoolP (b:Bool) (w:World) (e:Ending) (w':World):Prop:=e=.returned (.bool b)∧Up w w'
theorem c_IndexFuncString (kf:FuncId) (cap:Array Value) (eg:∀args w,(callFunc kf args).run Tryz.prog w=.ok (.enter kf args) w) (p:ByteArray→Bool) (A:Option Addr) (c:Nat) (xs:List ByteArray) (w:World) (h:SRW shS w A c xs)
 (hf:∀(W:World) (x:ByteArray),x∈xs→Up w W→Calls Tryz.prog kf (#[.string x]++cap) W (BoolP (p x) W)) :
 Calls Tryz.prog 105 #[.slice A xs.length c,.func (.func kf) #[] cap] w (IdxP p xs w):=by
 have hlen:=h.len_le
 have HF:=Hd hf;clear hf
 go_enter Tryz.func105,Tryz.ntmps105
 go_wp2_with fail
 go_loopw [8] (fun i wr=>∃k:Nat,k≤xs.length∧i=.int .i64 k∧Hid ((xs.take k).any p=false)∧Up w wr) (fun i _=>xs.length-(intOf i).toNat)
 case atStart=>exact ⟨0,Nat.zero_le _,rfl,rfl,Up.refl _⟩
 case round =>
  obtain ⟨k,hk,rfl,HT,hu⟩:=hrel
  by_cases hlt:k<xs.length
  ·obtain ⟨g,off,rfl,_,_,hc,hb⟩:=(h.up good_S hu).at_S hlt
   go_wp2_with fail
   refine (HF.out wr xs[k] (List.getElem_mem hlt) hu).mono ?_
   rintro e w1 ⟨rfl,u1⟩
   cases hp:p xs[k]
   ·have HN:Hid ((xs.take (k+1)).any p=false):=by unfold Hid;rw [any_take_succ p xs k hlt,hp,HT.out];rfl
    clear hp
    go_wp2_with fail
    go_roundw
    case rel=>exact ⟨k+1,by omega,by go_num,HN,hu.trans u1⟩
    case measure=>simp [intOf];omega
   ·have HP:=Hd hp;clear hp
    go_wp2_with fail
    go_ret
    exact ⟨_,rfl,hu.trans u1,.inr ⟨k,rfl,hlt,HP.out,HT.out⟩⟩
  ·have HE:=Hd (any_all p xs k HT.out (by omega))
   go_wp2_with fail
   go_ret
   exact ⟨-1,rfl,hu,.inl ⟨rfl,HE.out⟩⟩
theorem c_ContainsFuncString (kf:FuncId) (cap:Array Value) (eg:∀args w,(callFunc kf args).run Tryz.prog w=.ok (.enter kf args) w) (p:ByteArray→Bool) (A:Option Addr) (c:Nat) (xs:List ByteArray) (w:World) (h:SRW shS w A c xs)
 (hf:∀(W:World) (x:ByteArray),x∈xs→Up w W→Calls Tryz.prog kf (#[.string x]++cap) W (BoolP (p x) W)) :
 Calls Tryz.prog 76 #[.slice A xs.length c,.func (.func kf) #[] cap] w (BoolP (xs.any p) w):=by
 have HF:=Hd hf;clear hf
 have HG:=Hd eg;clear eg
 go_enter Tryz.func76,Tryz.ntmps76
 go_wp2_with fail
 refine (c_IndexFuncString kf cap HG.out p A c xs w h HF.out).mono ?_
 rintro e w1 ⟨n,rfl,u1,hn⟩
 rcases hn with ⟨rfl,hn⟩ | ⟨i,rfl,hi,hp,_⟩
 ·have HN:=Hd hn;clear hn
  go_wp2_with fail
  go_ret
  exact ⟨by rw [HN.out];rfl,u1⟩
 ·have HN:=Hd (any_at p xs i hi hp);clear hp
  have h0:(0:Int)≤i:=by omega
  go_wp2_with fail
  go_ret
  exact ⟨by rw [HN.out];simp,u1⟩
theorem c_IndexFuncInt64 (kf:FuncId) (cap:Array Value) (eg:∀args w,(callFunc kf args).run Tryz.prog w=.ok (.enter kf args) w) (p:Int→Bool) (A:Option Addr) (c:Nat) (xs:List Int) (w:World) (h:SRW shI w A c xs)
 (hf:∀(W:World) (x:Int),x∈xs→Up w W→I64 x→Calls Tryz.prog kf (#[.int .i64 x]++cap) W (BoolP (p x) W)) :
 Calls Tryz.prog 104 #[.slice A xs.length c,.func (.func kf) #[] cap] w (IdxP p xs w):=by
 have hlen:=h.len_le
 have HF:=Hd hf;clear hf
 go_enter Tryz.func104,Tryz.ntmps104
 go_wp2_with fail
 go_loopw [8] (fun i wr=>∃k:Nat,k≤xs.length∧i=.int .i64 k∧Hid ((xs.take k).any p=false)∧Up w wr) (fun i _=>xs.length-(intOf i).toNat)
 case atStart=>exact ⟨0,Nat.zero_le _,rfl,rfl,Up.refl _⟩
 case round =>
  obtain ⟨k,hk,rfl,HT,hu⟩:=hrel
  by_cases hlt:k<xs.length
  ·obtain ⟨g,off,rfl,_,_,hc,hb⟩:=(h.up good_I hu).at_I hlt
   go_wp2_with fail
   refine (HF.out wr xs[k] (List.getElem_mem hlt) hu hb).mono ?_
   rintro e w1 ⟨rfl,u1⟩
   cases hp:p xs[k]
   ·have HN:Hid ((xs.take (k+1)).any p=false):=by unfold Hid;rw [any_take_succ p xs k hlt,hp,HT.out];rfl
    clear hp
    go_wp2_with fail
    go_roundw
    case rel=>exact ⟨k+1,by omega,by go_num,HN,hu.trans u1⟩
    case measure=>simp [intOf];omega
   ·have HP:=Hd hp;clear hp
    go_wp2_with fail
    go_ret
    exact ⟨_,rfl,hu.trans u1,.inr ⟨k,rfl,hlt,HP.out,HT.out⟩⟩
  ·have HE:=Hd (any_all p xs k HT.out (by omega))
   go_wp2_with fail
   go_ret
   exact ⟨-1,rfl,hu,.inl ⟨rfl,HE.out⟩⟩
theorem c_ContainsFuncInt64 (kf:FuncId) (cap:Array Value) (eg:∀args w,(callFunc kf args).run Tryz.prog w=.ok (.enter kf args) w) (p:Int→Bool) (A:Option Addr) (c:Nat) (xs:List Int) (w:World) (h:SRW shI w A c xs)
 (hf:∀(W:World) (x:Int),x∈xs→Up w W→I64 x→Calls Tryz.prog kf (#[.int .i64 x]++cap) W (BoolP (p x) W)) :
 Calls Tryz.prog 74 #[.slice A xs.length c,.func (.func kf) #[] cap] w (BoolP (xs.any p) w):=by
 have HF:=Hd hf;clear hf
 have HG:=Hd eg;clear eg
 go_enter Tryz.func74,Tryz.ntmps74
 go_wp2_with fail
 refine (c_IndexFuncInt64 kf cap HG.out p A c xs w h HF.out).mono ?_
 rintro e w1 ⟨n,rfl,u1,hn⟩
 rcases hn with ⟨rfl,hn⟩ | ⟨i,rfl,hi,hp,_⟩
 ·have HN:=Hd hn;clear hn
  go_wp2_with fail
  go_ret
  exact ⟨by rw [HN.out];rfl,u1⟩
 ·have HN:=Hd (any_at p xs i hi hp);clear hp
  have h0:(0:Int)≤i:=by omega
  go_wp2_with fail
  go_ret
  exact ⟨by rw [HN.out];simp,u1⟩
end Go.Proofs.YtojmcmghmnfjeaaGreatDoor
namespace Go.Proofs.YtojmcmghmnfjeaaGreatDoor
open Go.RowKit
set_option linter.unusedVariables false
set_option linter.unusedSimpArgs false
theorem c_isNaNI (n:Int) (w:World):Calls Tryz.prog 89 #[.int .i64 n] w fun e w'=>e=.returned (.bool false)∧w=w':=by
 go_enter Tryz.func89,Tryz.ntmps89
 go_wp2
 go_ret
 exact ⟨by first | rfl | simp,rfl⟩
theorem c_CompareI (a b:Int) (w:World):Calls Tryz.prog 51 #[.int .i64 a,.int .i64 b] w fun e w'=>e=.returned (.int .i64 (cmpBy intLt a b))∧w=w':=by
 rcases lo_int.three a b with ⟨e1,e2,_,e4⟩ | ⟨rfl,e1,e2,e4⟩ | ⟨e1,e2,_,e4⟩
 all_goals
  have H:=Hd e4
  clear e4
  simp only [intLt,decide_eq_true_eq,decide_eq_false_iff_not] at e1 e2
  go_enter Tryz.func51,Tryz.ntmps51
  go_wp2_with (go_at_call 89;refine (c_isNaNI _ _).mono ?_;rintro e w' ⟨rfl,rfl⟩)
  go_ret
  exact ⟨by rw [H.out];first | done | rfl,rfl⟩
abbrev Small (xs:List ByteArray):Prop:=∀i (h:i<xs.length),xs[i].size≤1048576
theorem c_isLetter (c:UInt8) (w:World):Calls Tryz.prog 111 #[.int .u8 (c.toNat:Int)] w fun e w'=>e=.returned (.bool (isLetter c))∧w=w':=by
 unfold isLetter
 by_cases h1:97≤c.toNat
 ·by_cases h2:c.toNat≤122
  ·have h1':(97:Int)≤(c.toNat:Int):=by omega
   have h2':(c.toNat:Int)≤122:=by omega
   go_enter Tryz.func111,Tryz.ntmps111
   go_wp2
   go_ret
   exact ⟨by simp [h1,h2],rfl⟩
  ·have h1':(97:Int)≤(c.toNat:Int):=by omega
   have h2':¬(c.toNat:Int)≤122:=by omega
   have h3:¬(c.toNat:Int)≤90:=by omega
   have h3':¬c.toNat≤90:=by omega
   go_enter Tryz.func111,Tryz.ntmps111
   go_wp2
   go_ret
   exact ⟨by simp [h1,h2,h3'],rfl⟩
 ·have h1':¬(97:Int)≤(c.toNat:Int):=by omega
  by_cases h3:65≤c.toNat
  ·by_cases h4:c.toNat≤90
   ·have h3':(65:Int)≤(c.toNat:Int):=by omega
    have h4':(c.toNat:Int)≤90:=by omega
    go_enter Tryz.func111,Tryz.ntmps111
    go_wp2
    go_ret
    exact ⟨by simp [h1,h3,h4],rfl⟩
   ·have h3':(65:Int)≤(c.toNat:Int):=by omega
    have h4':¬(c.toNat:Int)≤90:=by omega
    go_enter Tryz.func111,Tryz.ntmps111
    go_wp2
    go_ret
    exact ⟨by simp [h1,h3,h4],rfl⟩
  ·have h3':¬(65:Int)≤(c.toNat:Int):=by omega
   go_enter Tryz.func111,Tryz.ntmps111
   go_wp2
   go_ret
   exact ⟨by simp [h1,h3],rfl⟩
theorem c_isDigit (c:UInt8) (w:World):Calls Tryz.prog 112 #[.int .u8 (c.toNat:Int)] w fun e w'=>e=.returned (.bool (isDig c))∧w=w':=by
 unfold isDig
 by_cases h1:48≤c.toNat
 ·have h1':(48:Int)≤(c.toNat:Int):=by omega
  by_cases h2:c.toNat≤57
  ·have h2':(c.toNat:Int)≤57:=by omega
   go_enter Tryz.func112,Tryz.ntmps112
   go_wp2
   go_ret
   exact ⟨by simp [h1,h2],rfl⟩
  ·have h2':¬(c.toNat:Int)≤57:=by omega
   go_enter Tryz.func112,Tryz.ntmps112
   go_wp2
   go_ret
   exact ⟨by simp [h1,h2],rfl⟩
 ·have h1':¬(48:Int)≤(c.toNat:Int):=by omega
  go_enter Tryz.func112,Tryz.ntmps112
  go_wp2
  go_ret
  exact ⟨by simp [h1],rfl⟩
theorem c_isLetterAt (c:UInt8) (z:Int) (w:World) (hz:z=(c.toNat:Int)):Calls Tryz.prog 111 #[.int .u8 z] w fun e w'=>e=.returned (.bool (isLetter c))∧w=w':=by
 subst hz
 exact c_isLetter c w
theorem c_isDigitAt (c:UInt8) (z:Int) (w:World) (hz:z=(c.toNat:Int)):Calls Tryz.prog 112 #[.int .u8 z] w fun e w'=>e=.returned (.bool (isDig c))∧w=w':=by
 subst hz
 exact c_isDigit c w
theorem c_SubOk (s:ByteArray) (w:World):Calls Tryz.prog 141 #[.string s] w fun e w'=>e=.returned (.bool (subB s))∧w=w':=by
 unfold subB
 by_cases h1:1≤s.size
 ·go_enter Tryz.func141,Tryz.ntmps141
  go_wp2
  go_ret
  exact ⟨by simp [h1];omega,rfl⟩
 ·go_enter Tryz.func141,Tryz.ntmps141
  go_wp2
  go_ret
  exact ⟨by simp [h1],rfl⟩
theorem c_SubsOk1 (s:ByteArray) (w:World):Calls Tryz.prog 140 #[.string s] w (BoolP (!subB s) w):=by
 go_enter Tryz.func140,Tryz.ntmps140
 go_wp2_with fail
 refine (c_SubOk s _).mono ?_
 rintro e w1 ⟨rfl,rfl⟩
 go_wp2_with fail
 go_ret
 exact ⟨rfl,Up.refl _⟩
theorem any_not_subs (xs:List ByteArray) (h:xs.length≤4):subsB xs=!(xs.any fun s=>!subB s):=by
 cases e:xs.any (fun s=>!subB s)
 ·refine subsB_t ⟨h,fun i hi=>?_⟩
  rw [List.any_eq_false] at e
  have:=e xs[i] (List.getElem_mem hi)
  simpa using this
 ·rw [List.any_eq_true] at e
  obtain ⟨x,hx,hp⟩:=e
  obtain ⟨i,hi,rfl⟩:=List.getElem_of_mem hx
  refine subsB_f fun hh=>?_
  have:=hh.2 i hi
  rw [this] at hp
  simp at hp
theorem c_SubsOk (xs:List ByteArray) (A:Option Addr) (c:Nat) (w:World) (h:SRW shS w A c xs) :
 Calls Tryz.prog 109 #[.slice A xs.length c] w (RetV (.bool (subsB xs)) w):=by
 have hlen:=h.len_le
 have eg:∀args w,(callFunc 140 args).run Tryz.prog w=.ok (.enter 140 args) w:=enters_of Tryz.func140 (by kernel_rfl) rfl
 by_cases h4:xs.length≤4
 ·have HE:=Hd (any_not_subs xs h4)
  have EG:=Hd eg
  clear eg
  go_enter Tryz.func109,Tryz.ntmps109
  go_wp2_with fail
  refine (c_ContainsFuncString 140 #[] EG.out (fun s=>!subB s) A c xs _ h (fun W x _ _=>c_SubsOk1 x W)).mono ?_
  rintro e w1 ⟨rfl,u1⟩
  generalize (xs.any fun s=>!subB s)=b at *
  go_wp2_with fail
  go_ret
  exact ⟨by rw [HE.out];first | done | rfl,u1⟩
 ·have HE:=Hd (subsB_f (l:=xs) fun hh=>h4 hh.1)
  clear eg
  go_enter Tryz.func109,Tryz.ntmps109
  go_wp2_with fail
  go_ret
  exact ⟨by rw [HE.out];first | done | rfl,Up.refl _⟩
theorem c_NameOk (s:ByteArray) (w:World) (hs:s.size≤maxLen):Calls Tryz.prog 80 #[.string s] w (RetV (.bool (nameB s)) w):=by
 unfold maxLen at hs
 go_enter Tryz.func80,Tryz.ntmps80
 go_wp2_with fail
 go_loop [3] (fun i=>∃k:Nat,k≤s.size∧i=.int .i64 k∧Hid (∀i (h:i<s.size),i<k→chOk i s[i]=true)) (fun i=>s.size-(intOf i).toNat)
 case atStart=>exact ⟨0,Nat.zero_le _,rfl,fun i h hi=>absurd hi (by omega)⟩
 case round =>
  obtain ⟨k,hk,rfl,HA⟩:=hrel
  by_cases hlt:k<s.size
  ·cases hk2:chOk k s[k]
   ·have H:=Hd (nameB_f (s:=s) fun h=>by have:=h.2.2 k hlt;rw [hk2] at this;cases this)
    by_cases hk0:k=0
    ·subst hk0
     have hk3:isLetter s[0]=false∧s[0]≠37:=by simpa [chOk] using hk2
     have b37:=u8_nb 37 rfl hk3.2
     have n37:=u8_nn 37 rfl hk3.2
     have hk4:=hk3.1
     clear hk2 hk3
     go_wp2_with (first | (go_at_call 111;refine (c_isLetterAt s[0] _ _ rfl).mono ?_;rintro e w1 ⟨rfl,rfl⟩;rw [hk4]))
     go_ret
     exact retB (Hd H.out.symm) (Up.refl _)
    ·have hk3:isLetter s[k]=false∧isDig s[k]=false:=by simpa [chOk,hk0] using hk2
     obtain ⟨hk4,hk5⟩:=hk3
     have hki:¬(k:Int)=0:=by omega
     have hkb:((k:Int)==0)=false:=by simpa using hk0
     clear hk2
     go_wp2_with (first | (go_at_call 111;refine (c_isLetterAt s[k] _ _ rfl).mono ?_;rintro e w1 ⟨rfl,rfl⟩;rw [hk4]) | (go_at_call 112;refine (c_isDigitAt s[k] _ _ rfl).mono ?_;rintro e w1 ⟨rfl,rfl⟩;rw [hk5]))
     go_ret
     exact retB (Hd H.out.symm) (Up.refl _)
   ·have HN:Hid (∀i (h:i<s.size),i<k+1→chOk i s[i]=true):=fun i h hi=>by
     by_cases e:i=k
     ·subst e;exact hk2
     ·exact HA.out i h (by omega)
    cases hL:isLetter s[k]
    ·by_cases hk0:k=0
     ·subst hk0
      have h37:s[0]=37:=by simpa [chOk,hL] using hk2
      have e37:=u8_yb 37 rfl h37
      have HZ:=Hd (show (37:Int)=(s[0].toNat:Int) from e37.symm)
      clear hk2 h37
      go_wp2_with (first | (go_at_call 111;refine (c_isLetterAt s[0] _ _ (by first | rfl | exact HZ.out)).mono ?_;rintro e w1 ⟨rfl,rfl⟩;rw [hL]))
      go_round
      case rel=>exact ⟨1,by omega,by first | rfl | go_num,HN⟩
      case measure=>simp [intOf];omega
     ·have hd:isDig s[k]=true:=by simpa [chOk,hk0,hL] using hk2
      have hki:¬(k:Int)=0:=by omega
      have hkb:((k:Int)==0)=false:=by simpa using hk0
      clear hk2
      go_wp2_with (first | (go_at_call 111;refine (c_isLetterAt s[k] _ _ rfl).mono ?_;rintro e w1 ⟨rfl,rfl⟩;rw [hL]) | (go_at_call 112;refine (c_isDigitAt s[k] _ _ rfl).mono ?_;rintro e w1 ⟨rfl,rfl⟩;rw [hd]))
      go_round
      case rel=>exact ⟨k+1,by omega,by go_num,HN⟩
      case measure=>simp [intOf];omega
    ·clear hk2
     go_wp2_with (first | (go_at_call 111;refine (c_isLetterAt s[k] _ _ rfl).mono ?_;rintro e w1 ⟨rfl,rfl⟩;rw [hL]))
     go_round
     case rel=>exact ⟨k+1,by omega,by go_num,HN⟩
     case measure=>simp [intOf];omega
  ·obtain rfl:k=s.size:=by omega
   by_cases h1:1≤s.size
   ·by_cases h2:s.size≤8
    ·have H:=Hd (nameB_t (s:=s) ⟨h1,h2,fun i h=>HA.out i h h⟩)
     go_wp2_with fail
     go_ret
     exact ⟨by rw [H.out];first | done | rfl | (simp;omega),Up.refl _⟩
    ·have H:=Hd (nameB_f (s:=s) fun h=>h2 h.2.1)
     go_wp2_with fail
     go_ret
     exact ⟨by rw [H.out];first | done | rfl | (simp;omega),Up.refl _⟩
   ·have H:=Hd (nameB_f (s:=s) fun h=>h1 h.1)
    go_wp2_with fail
    go_ret
    exact ⟨by rw [H.out];first | done | rfl | (simp;omega),Up.refl _⟩
theorem c_PutSubs (xs:List ByteArray) (A:Option Addr) (c:Nat) (w:World) (h:SRW shS w A c xs) (htab:Tab w) (hm:MaxL w) :
 Calls Tryz.prog 110 #[.slice A xs.length c] w (RetV (.string (bs (putSubsL xs))) w):=by
 cases hb:subsB xs
 ·have HE:Hid (bs (putSubsL xs)=⟨#[]⟩):=by unfold Hid putSubsL;rw [if_neg (by rw [hb];simp)];rfl
  go_enter Tryz.func110,Tryz.ntmps110
  go_wp2_with fail
  refine (c_SubsOk xs A c _ h).mono ?_
  rintro e w1 ⟨rfl,u1⟩
  rw [hb]
  go_wp2_with fail
  go_ret
  exact ⟨by rw [HE.out];first | done | rfl,u1⟩
 ·have HE:Hid (bs (putSubsL xs)=bs (xs.flatMap subKeyL)):=by unfold Hid putSubsL;rw [if_pos hb]
  have HP:=Hd (subsP_of hb)
  have hlen:=h.len_le
  go_enter Tryz.func110,Tryz.ntmps110
  go_wp2_with fail
  refine (c_SubsOk xs A c _ h).mono ?_
  rintro e w1 ⟨rfl,u1⟩
  rw [hb]
  have h0:0<w1.heap.size:=Nat.lt_of_lt_of_le (by obtain ⟨m,hm⟩:=hm;exact cell_lt hm) u1.size
  have b0:Bld8 w1.heap.size w1.heap.size (([]:List ByteArray).flatMap subKeyL) (w1.alloc (.cells #[.pointer none,.slice none 0 0] 162)):=bld_new _ _ (Bk.new w1 162 #[.pointer none,.slice none 0 0])
  have ku0:Up w1 (w1.alloc (.cells #[.pointer none,.slice none 0 0] 162)):=(Up.refl w1).alloc _
  go_wp2_with fail
  go_loopw [11] (fun i wr=>∃k:Nat,k≤xs.length∧i=.int .i64 k∧Bld8 w1.heap.size w1.heap.size ((xs.take k).flatMap subKeyL) wr∧Below w1.heap.size w1 wr) (fun i _=>xs.length-(intOf i).toNat)
  case atStart=>exact ⟨0,Nat.zero_le _,rfl,b0,ku0⟩
  case round =>
   obtain ⟨k,hk,rfl,br,kr⟩:=hrel
   have hu:Up w wr:=u1.trans kr
   by_cases hlt:k<xs.length
   ·obtain ⟨g,off,rfl,_,_,hc,hb1⟩:=(h.up good_S hu).at_S hlt
    have hs:=subB_size (HP.out.2 k hlt)
    have hl1:=keys_len (l:=xs.take k) (fun x hx=>subs_all HP.out x (List.mem_of_mem_take hx))
    have h4:=HP.out.1
    rw [List.length_take] at hl1
    have hsn:(xs.take (k+1)).flatMap subKeyL=(xs.take k).flatMap subKeyL++subKeyL xs[k]:=keys_snoc xs hlt
    have HS:=Hd hsn
    have hl2:((xs.take k).flatMap subKeyL).length≤1099511627776:=by omega
    have hsz:=kr.size
    have ck:=c_putSub w1.heap.size w1.heap.size _ xs[k] wr br (by omega) hl2 hsz h0 (tab_up htab hu) (maxL_up hm hu)
    have CK:=Hd ck
    clear ck hsn hl1 hs h4 hl2
    go_wp2_with fail
    refine CK.out.mono ?_
    rintro e w2 ⟨rfl,b2,k2,o2⟩
    go_wp2_with fail
    go_roundw
    case rel=>exact ⟨k+1,by omega,by go_num,by rw [HS.out];exact b2,kr.trans k2⟩
    case measure=>simp [intOf];omega
   ·have ht:xs.take k=xs:=List.take_of_length_le (by omega)
    rw [ht] at br
    clear ht
    have hsz:=kr.size
    have cs:=c_BString w1.heap.size w1.heap.size _ wr br hsz
    have CS:=Hd cs
    clear cs
    go_wp2_with fail
    refine CS.out.mono ?_
    rintro e w2 ⟨rfl,k2⟩
    go_wp2_with fail
    go_ret
    exact ⟨by rw [HE.out];first | done | rfl,Up.below hu k2 u1.size⟩
end Go.Proofs.YtojmcmghmnfjeaaGreatDoor
