/-
 Shapes of the structs of the program,by a program of ours (gen.py).
 Contracts of library functions that take a function value: slices.IndexFunc,slices.ContainsFunc.
 The program's order and places: contracts.
 The program's PutSubs: the keys of a list of subscripts.
-/
import Derived.Test.YthdnicfbnihoaaaGreatDoorM4A
import Derived.Test.YthdnicfbnihoaaaGreatDoorRows
import Derived.Test.YthdnicfbnihoaaaGreatDoorM4D
import Derived.Test.YthdnicfbnihoaaaGreatDoorM4B
import Derived.Test.YthdnicfbnihoaaaGreatDoorM4C
set_option maxHeartbeats 8000000
set_option maxRecDepth 100000
namespace Go.Proofs.YthdnicfbnihoaaaGreatDoor
open Go.RowKit
set_option linter.unusedSimpArgs false
abbrev TSeat:Type:=Int × Int
def shSeat:Sh TSeat:=(shP shI shI)
theorem good_Seat:Good shSeat:=(good_P good_I good_I)
theorem openSeat {w:World} {lo hi:Nat} {cs:List Value} {x:TSeat} (h:shSeat.rep w lo hi cs x) :
   cs=[.int .i64 x.1,.int .i64 x.2]∧I64 x.1∧I64 x.2:=by
 obtain ⟨p1,q1,rfl,l1,r1⟩:=open_P h
 obtain ⟨rfl,b0⟩:=l1
 obtain ⟨rfl,b1⟩:=r1
 exact ⟨rfl,b0,b1⟩
theorem mkSeat {w:World} {lo hi:Nat} {x:TSeat} (b0:I64 x.1) (b1:I64 x.2):shSeat.rep w lo hi [.int .i64 x.1,.int .i64 x.2] x :=
 (mk_P good_I ⟨rfl,b0⟩ ⟨rfl,b1⟩)
theorem openOSeat {w:World} {lo hi:Nat} {cs:List Value} {x:TSeat} {bl:List Nat} (h:shSeat.own w lo hi cs x bl) :
   cs=[.int .i64 x.1,.int .i64 x.2]∧bl=[]∧I64 x.1∧I64 x.2:=by
 obtain ⟨p1,q1,_,_,rfl,rfl,l1,r1⟩:=openO_P h
 obtain ⟨⟨rfl,b0⟩,rfl⟩:=l1
 obtain ⟨⟨rfl,b1⟩,rfl⟩:=r1
 exact ⟨rfl,by simp,b0,b1⟩
theorem mkOSeat {w:World} {lo hi:Nat} {x:TSeat} (b0:I64 x.1) (b1:I64 x.2):shSeat.own w lo hi [.int .i64 x.1,.int .i64 x.2] x ([]):=by
 have h:shSeat.own w lo hi [.int .i64 x.1,.int .i64 x.2] x _:=(mkO_P good_I ⟨⟨rfl,b0⟩,rfl⟩ ⟨⟨rfl,b1⟩,rfl⟩)
 simpa using h
theorem atSeat {w:World} {lo hi:Nat} {A:Option Addr} {c:Nat} {xs:List TSeat} (h:SR shSeat w lo hi A c xs) {i:Nat} (hi':i<xs.length) :
   ∃(g off:Nat),A=some ⟨g,off,none⟩∧lo≤g∧g<hi∧w.cell? ⟨g,off+i*2,none⟩=some (.int .i64 xs[i].1)∧w.cell? ⟨g,off+i*2+1,none⟩=some (.int .i64 xs[i].2)∧I64 xs[i].1∧I64 xs[i].2∧True:=by
 obtain ⟨g,off,cs,hA,h1,h2,hc,hr⟩:=h.at_ hi'
 obtain ⟨rfl,b0,b1⟩:=openSeat hr
 exact ⟨g,off,hA,h1,h2,hc.2 0 (by decide),hc.2 1 (by decide),b0,b1,trivial⟩
abbrev TPut:Type:=Int × ByteArray
def shPut:Sh TPut:=(shP shI shS)
theorem good_Put:Good shPut:=(good_P good_I good_S)
theorem openPut {w:World} {lo hi:Nat} {cs:List Value} {x:TPut} (h:shPut.rep w lo hi cs x) :
   cs=[.int .i64 x.1,.string x.2]∧I64 x.1∧x.2.size≤maxLen:=by
 obtain ⟨p1,q1,rfl,l1,r1⟩:=open_P h
 obtain ⟨rfl,b0⟩:=l1
 obtain ⟨rfl,b1⟩:=r1
 exact ⟨rfl,b0,b1⟩
theorem mkPut {w:World} {lo hi:Nat} {x:TPut} (b0:I64 x.1) (b1:x.2.size≤maxLen):shPut.rep w lo hi [.int .i64 x.1,.string x.2] x :=
 (mk_P good_I ⟨rfl,b0⟩ ⟨rfl,b1⟩)
theorem openOPut {w:World} {lo hi:Nat} {cs:List Value} {x:TPut} {bl:List Nat} (h:shPut.own w lo hi cs x bl) :
   cs=[.int .i64 x.1,.string x.2]∧bl=[]∧I64 x.1∧x.2.size≤maxLen:=by
 obtain ⟨p1,q1,_,_,rfl,rfl,l1,r1⟩:=openO_P h
 obtain ⟨⟨rfl,b0⟩,rfl⟩:=l1
 obtain ⟨⟨rfl,b1⟩,rfl⟩:=r1
 exact ⟨rfl,by simp,b0,b1⟩
theorem mkOPut {w:World} {lo hi:Nat} {x:TPut} (b0:I64 x.1) (b1:x.2.size≤maxLen):shPut.own w lo hi [.int .i64 x.1,.string x.2] x ([]):=by
 have h:shPut.own w lo hi [.int .i64 x.1,.string x.2] x _:=(mkO_P good_I ⟨⟨rfl,b0⟩,rfl⟩ ⟨⟨rfl,b1⟩,rfl⟩)
 simpa using h
theorem atPut {w:World} {lo hi:Nat} {A:Option Addr} {c:Nat} {xs:List TPut} (h:SR shPut w lo hi A c xs) {i:Nat} (hi':i<xs.length) :
   ∃(g off:Nat),A=some ⟨g,off,none⟩∧lo≤g∧g<hi∧w.cell? ⟨g,off+i*2,none⟩=some (.int .i64 xs[i].1)∧w.cell? ⟨g,off+i*2+1,none⟩=some (.string xs[i].2)∧I64 xs[i].1∧xs[i].2.size≤maxLen∧True:=by
 obtain ⟨g,off,cs,hA,h1,h2,hc,hr⟩:=h.at_ hi'
 obtain ⟨rfl,b0,b1⟩:=openPut hr
 exact ⟨g,off,hA,h1,h2,hc.2 0 (by decide),hc.2 1 (by decide),b0,b1,trivial⟩
abbrev TTop:Type:=Int × Int × Int × (List TSeat)
def shTop:Sh TTop:=(shP shI (shP shI (shP shI (shL shSeat))))
theorem good_Top:Good shTop:=(good_P good_I (good_P good_I (good_P good_I (good_L good_Seat))))
theorem openTop {w:World} {lo hi:Nat} {cs:List Value} {x:TTop} (h:shTop.rep w lo hi cs x) :
   ∃(A3:Option Addr) (c3:Nat),cs=[.int .i64 x.1,.int .i64 x.2.1,.int .i64 x.2.2.1,.slice A3 x.2.2.2.length c3]∧I64 x.1∧I64 x.2.1∧I64 x.2.2.1∧SR shSeat w lo hi A3 c3 x.2.2.2:=by
 obtain ⟨p1,q1,rfl,l1,r1⟩:=open_P h
 obtain ⟨rfl,b0⟩:=l1
 obtain ⟨p2,q2,rfl,l2,r2⟩:=open_P r1
 obtain ⟨rfl,b1⟩:=l2
 obtain ⟨p3,q3,rfl,l3,r3⟩:=open_P r2
 obtain ⟨rfl,b2⟩:=l3
 obtain ⟨A3,c3,rfl,b3⟩:=r3
 exact ⟨A3,c3,rfl,b0,b1,b2,b3⟩
theorem mkTop {w:World} {lo hi:Nat} {x:TTop} {A3:Option Addr} {c3:Nat} (b0:I64 x.1) (b1:I64 x.2.1) (b2:I64 x.2.2.1) (b3:SR shSeat w lo hi A3 c3 x.2.2.2):shTop.rep w lo hi [.int .i64 x.1,.int .i64 x.2.1,.int .i64 x.2.2.1,.slice A3 x.2.2.2.length c3] x :=
 (mk_P good_I ⟨rfl,b0⟩ (mk_P good_I ⟨rfl,b1⟩ (mk_P good_I ⟨rfl,b2⟩ ⟨A3,c3,rfl,b3⟩)))
theorem openOTop {w:World} {lo hi:Nat} {cs:List Value} {x:TTop} {bl:List Nat} (h:shTop.own w lo hi cs x bl) :
   ∃(A3:Option Addr) (c3:Nat) (bl3:List Nat),cs=[.int .i64 x.1,.int .i64 x.2.1,.int .i64 x.2.2.1,.slice A3 x.2.2.2.length c3]∧bl=bl3∧I64 x.1∧I64 x.2.1∧I64 x.2.2.1∧SO shSeat w lo hi A3 c3 x.2.2.2 bl3:=by
 obtain ⟨p1,q1,_,_,rfl,rfl,l1,r1⟩:=openO_P h
 obtain ⟨⟨rfl,b0⟩,rfl⟩:=l1
 obtain ⟨p2,q2,_,_,rfl,rfl,l2,r2⟩:=openO_P r1
 obtain ⟨⟨rfl,b1⟩,rfl⟩:=l2
 obtain ⟨p3,q3,_,_,rfl,rfl,l3,r3⟩:=openO_P r2
 obtain ⟨⟨rfl,b2⟩,rfl⟩:=l3
 obtain ⟨A3,c3,rfl,b3⟩:=r3
 exact ⟨A3,c3,_,rfl,by simp,b0,b1,b2,b3⟩
theorem mkOTop {w:World} {lo hi:Nat} {x:TTop} {A3:Option Addr} {c3:Nat} {bl3:List Nat} (b0:I64 x.1) (b1:I64 x.2.1) (b2:I64 x.2.2.1) (b3:SO shSeat w lo hi A3 c3 x.2.2.2 bl3):shTop.own w lo hi [.int .i64 x.1,.int .i64 x.2.1,.int .i64 x.2.2.1,.slice A3 x.2.2.2.length c3] x (bl3):=by
 have h:shTop.own w lo hi [.int .i64 x.1,.int .i64 x.2.1,.int .i64 x.2.2.1,.slice A3 x.2.2.2.length c3] x _:=(mkO_P good_I ⟨⟨rfl,b0⟩,rfl⟩ (mkO_P good_I ⟨⟨rfl,b1⟩,rfl⟩ (mkO_P good_I ⟨⟨rfl,b2⟩,rfl⟩ ⟨A3,c3,rfl,b3⟩)))
 simpa using h
abbrev TDisk:Type:=Int × (List ByteArray) × (List TPut)
def shDisk:Sh TDisk:=(shP shI (shP (shL shS) (shL shPut)))
theorem good_Disk:Good shDisk:=(good_P good_I (good_P (good_L good_S) (good_L good_Put)))
theorem openDisk {w:World} {lo hi:Nat} {cs:List Value} {x:TDisk} (h:shDisk.rep w lo hi cs x) :
   ∃(A1:Option Addr) (c1:Nat) (A2:Option Addr) (c2:Nat),cs=[.int .i64 x.1,.slice A1 x.2.1.length c1,.slice A2 x.2.2.length c2]∧I64 x.1∧SR shS w lo hi A1 c1 x.2.1∧SR shPut w lo hi A2 c2 x.2.2:=by
 obtain ⟨p1,q1,rfl,l1,r1⟩:=open_P h
 obtain ⟨rfl,b0⟩:=l1
 obtain ⟨p2,q2,rfl,l2,r2⟩:=open_P r1
 obtain ⟨A1,c1,rfl,b1⟩:=l2
 obtain ⟨A2,c2,rfl,b2⟩:=r2
 exact ⟨A1,c1,A2,c2,rfl,b0,b1,b2⟩
theorem mkDisk {w:World} {lo hi:Nat} {x:TDisk} {A1:Option Addr} {c1:Nat} {A2:Option Addr} {c2:Nat} (b0:I64 x.1) (b1:SR shS w lo hi A1 c1 x.2.1) (b2:SR shPut w lo hi A2 c2 x.2.2):shDisk.rep w lo hi [.int .i64 x.1,.slice A1 x.2.1.length c1,.slice A2 x.2.2.length c2] x :=
 (mk_P good_I ⟨rfl,b0⟩ (mk_P (good_L good_S) ⟨A1,c1,rfl,b1⟩ ⟨A2,c2,rfl,b2⟩))
theorem openODisk {w:World} {lo hi:Nat} {cs:List Value} {x:TDisk} {bl:List Nat} (h:shDisk.own w lo hi cs x bl) :
   ∃(A1:Option Addr) (c1:Nat) (bl1:List Nat) (A2:Option Addr) (c2:Nat) (bl2:List Nat),cs=[.int .i64 x.1,.slice A1 x.2.1.length c1,.slice A2 x.2.2.length c2]∧bl=bl1++bl2∧I64 x.1∧SO shS w lo hi A1 c1 x.2.1 bl1∧SO shPut w lo hi A2 c2 x.2.2 bl2:=by
 obtain ⟨p1,q1,_,_,rfl,rfl,l1,r1⟩:=openO_P h
 obtain ⟨⟨rfl,b0⟩,rfl⟩:=l1
 obtain ⟨p2,q2,_,_,rfl,rfl,l2,r2⟩:=openO_P r1
 obtain ⟨A1,c1,rfl,b1⟩:=l2
 obtain ⟨A2,c2,rfl,b2⟩:=r2
 exact ⟨A1,c1,_,A2,c2,_,rfl,by simp,b0,b1,b2⟩
theorem mkODisk {w:World} {lo hi:Nat} {x:TDisk} {A1:Option Addr} {c1:Nat} {bl1:List Nat} {A2:Option Addr} {c2:Nat} {bl2:List Nat} (b0:I64 x.1) (b1:SO shS w lo hi A1 c1 x.2.1 bl1) (b2:SO shPut w lo hi A2 c2 x.2.2 bl2):shDisk.own w lo hi [.int .i64 x.1,.slice A1 x.2.1.length c1,.slice A2 x.2.2.length c2] x (bl1++bl2):=by
 have h:shDisk.own w lo hi [.int .i64 x.1,.slice A1 x.2.1.length c1,.slice A2 x.2.2.length c2] x _:=(mkO_P good_I ⟨⟨rfl,b0⟩,rfl⟩ (mkO_P (good_L good_S) ⟨A1,c1,rfl,b1⟩ ⟨A2,c2,rfl,b2⟩))
 simpa using h
abbrev TPage:Type:=Bool × (List ByteArray) × (List ByteArray) × (List Int)
def shPage:Sh TPage:=(shP shB (shP (shL shS) (shP (shL shS) (shL shI))))
theorem good_Page:Good shPage:=(good_P good_B (good_P (good_L good_S) (good_P (good_L good_S) (good_L good_I))))
theorem openPage {w:World} {lo hi:Nat} {cs:List Value} {x:TPage} (h:shPage.rep w lo hi cs x) :
   ∃(A1:Option Addr) (c1:Nat) (A2:Option Addr) (c2:Nat) (A3:Option Addr) (c3:Nat),cs=[.bool x.1,.slice A1 x.2.1.length c1,.slice A2 x.2.2.1.length c2,.slice A3 x.2.2.2.length c3]∧SR shS w lo hi A1 c1 x.2.1∧SR shS w lo hi A2 c2 x.2.2.1∧SR shI w lo hi A3 c3 x.2.2.2:=by
 obtain ⟨p1,q1,rfl,l1,r1⟩:=open_P h
 obtain rfl:=l1
 obtain ⟨p2,q2,rfl,l2,r2⟩:=open_P r1
 obtain ⟨A1,c1,rfl,b1⟩:=l2
 obtain ⟨p3,q3,rfl,l3,r3⟩:=open_P r2
 obtain ⟨A2,c2,rfl,b2⟩:=l3
 obtain ⟨A3,c3,rfl,b3⟩:=r3
 exact ⟨A1,c1,A2,c2,A3,c3,rfl,b1,b2,b3⟩
theorem mkPage {w:World} {lo hi:Nat} {x:TPage} {A1:Option Addr} {c1:Nat} {A2:Option Addr} {c2:Nat} {A3:Option Addr} {c3:Nat} (b1:SR shS w lo hi A1 c1 x.2.1) (b2:SR shS w lo hi A2 c2 x.2.2.1) (b3:SR shI w lo hi A3 c3 x.2.2.2):shPage.rep w lo hi [.bool x.1,.slice A1 x.2.1.length c1,.slice A2 x.2.2.1.length c2,.slice A3 x.2.2.2.length c3] x :=
 (mk_P good_B rfl (mk_P (good_L good_S) ⟨A1,c1,rfl,b1⟩ (mk_P (good_L good_S) ⟨A2,c2,rfl,b2⟩ ⟨A3,c3,rfl,b3⟩)))
theorem openOPage {w:World} {lo hi:Nat} {cs:List Value} {x:TPage} {bl:List Nat} (h:shPage.own w lo hi cs x bl) :
   ∃(A1:Option Addr) (c1:Nat) (bl1:List Nat) (A2:Option Addr) (c2:Nat) (bl2:List Nat) (A3:Option Addr) (c3:Nat) (bl3:List Nat),cs=[.bool x.1,.slice A1 x.2.1.length c1,.slice A2 x.2.2.1.length c2,.slice A3 x.2.2.2.length c3]∧bl=bl1++bl2++bl3∧SO shS w lo hi A1 c1 x.2.1 bl1∧SO shS w lo hi A2 c2 x.2.2.1 bl2∧SO shI w lo hi A3 c3 x.2.2.2 bl3:=by
 obtain ⟨p1,q1,_,_,rfl,rfl,l1,r1⟩:=openO_P h
 obtain ⟨rfl,rfl⟩:=l1
 obtain ⟨p2,q2,_,_,rfl,rfl,l2,r2⟩:=openO_P r1
 obtain ⟨A1,c1,rfl,b1⟩:=l2
 obtain ⟨p3,q3,_,_,rfl,rfl,l3,r3⟩:=openO_P r2
 obtain ⟨A2,c2,rfl,b2⟩:=l3
 obtain ⟨A3,c3,rfl,b3⟩:=r3
 exact ⟨A1,c1,_,A2,c2,_,A3,c3,_,rfl,by simp,b1,b2,b3⟩
abbrev TSlot:Type:=Int × TPage
def shSlot:Sh TSlot:=(shP shI shPage)
theorem good_Slot:Good shSlot:=(good_P good_I good_Page)
theorem openSlot {w:World} {lo hi:Nat} {cs:List Value} {x:TSlot} (h:shSlot.rep w lo hi cs x) :
   ∃(A2:Option Addr) (c2:Nat) (A3:Option Addr) (c3:Nat) (A4:Option Addr) (c4:Nat),cs=[.int .i64 x.1,.bool x.2.1,.slice A2 x.2.2.1.length c2,.slice A3 x.2.2.2.1.length c3,.slice A4 x.2.2.2.2.length c4]∧I64 x.1∧SR shS w lo hi A2 c2 x.2.2.1∧SR shS w lo hi A3 c3 x.2.2.2.1∧SR shI w lo hi A4 c4 x.2.2.2.2:=by
 obtain ⟨p1,q1,rfl,l1,r1⟩:=open_P h
 obtain ⟨rfl,b0⟩:=l1
 obtain ⟨p2,q2,rfl,l2,r2⟩:=open_P r1
 obtain rfl:=l2
 obtain ⟨p3,q3,rfl,l3,r3⟩:=open_P r2
 obtain ⟨A2,c2,rfl,b2⟩:=l3
 obtain ⟨p4,q4,rfl,l4,r4⟩:=open_P r3
 obtain ⟨A3,c3,rfl,b3⟩:=l4
 obtain ⟨A4,c4,rfl,b4⟩:=r4
 exact ⟨A2,c2,A3,c3,A4,c4,rfl,b0,b2,b3,b4⟩
theorem mkSlot {w:World} {lo hi:Nat} {x:TSlot} {A2:Option Addr} {c2:Nat} {A3:Option Addr} {c3:Nat} {A4:Option Addr} {c4:Nat} (b0:I64 x.1) (b2:SR shS w lo hi A2 c2 x.2.2.1) (b3:SR shS w lo hi A3 c3 x.2.2.2.1) (b4:SR shI w lo hi A4 c4 x.2.2.2.2):shSlot.rep w lo hi [.int .i64 x.1,.bool x.2.1,.slice A2 x.2.2.1.length c2,.slice A3 x.2.2.2.1.length c3,.slice A4 x.2.2.2.2.length c4] x :=
 (mk_P good_I ⟨rfl,b0⟩ (mk_P good_B rfl (mk_P (good_L good_S) ⟨A2,c2,rfl,b2⟩ (mk_P (good_L good_S) ⟨A3,c3,rfl,b3⟩ ⟨A4,c4,rfl,b4⟩))))
theorem openOSlot {w:World} {lo hi:Nat} {cs:List Value} {x:TSlot} {bl:List Nat} (h:shSlot.own w lo hi cs x bl) :
   ∃(A2:Option Addr) (c2:Nat) (bl2:List Nat) (A3:Option Addr) (c3:Nat) (bl3:List Nat) (A4:Option Addr) (c4:Nat) (bl4:List Nat),cs=[.int .i64 x.1,.bool x.2.1,.slice A2 x.2.2.1.length c2,.slice A3 x.2.2.2.1.length c3,.slice A4 x.2.2.2.2.length c4]∧bl=bl2++bl3++bl4∧I64 x.1∧SO shS w lo hi A2 c2 x.2.2.1 bl2∧SO shS w lo hi A3 c3 x.2.2.2.1 bl3∧SO shI w lo hi A4 c4 x.2.2.2.2 bl4:=by
 obtain ⟨p1,q1,_,_,rfl,rfl,l1,r1⟩:=openO_P h
 obtain ⟨⟨rfl,b0⟩,rfl⟩:=l1
 obtain ⟨p2,q2,_,_,rfl,rfl,l2,r2⟩:=openO_P r1
 obtain ⟨rfl,rfl⟩:=l2
 obtain ⟨p3,q3,_,_,rfl,rfl,l3,r3⟩:=openO_P r2
 obtain ⟨A2,c2,rfl,b2⟩:=l3
 obtain ⟨p4,q4,_,_,rfl,rfl,l4,r4⟩:=openO_P r3
 obtain ⟨A3,c3,rfl,b3⟩:=l4
 obtain ⟨A4,c4,rfl,b4⟩:=r4
 exact ⟨A2,c2,_,A3,c3,_,A4,c4,_,rfl,by simp,b0,b2,b3,b4⟩
theorem mkOSlot {w:World} {lo hi:Nat} {x:TSlot} {A2:Option Addr} {c2:Nat} {bl2:List Nat} {A3:Option Addr} {c3:Nat} {bl3:List Nat} {A4:Option Addr} {c4:Nat} {bl4:List Nat} (b0:I64 x.1) (b2:SO shS w lo hi A2 c2 x.2.2.1 bl2) (b3:SO shS w lo hi A3 c3 x.2.2.2.1 bl3) (b4:SO shI w lo hi A4 c4 x.2.2.2.2 bl4):shSlot.own w lo hi [.int .i64 x.1,.bool x.2.1,.slice A2 x.2.2.1.length c2,.slice A3 x.2.2.2.1.length c3,.slice A4 x.2.2.2.2.length c4] x (bl2++bl3++bl4):=by
 have h:shSlot.own w lo hi [.int .i64 x.1,.bool x.2.1,.slice A2 x.2.2.1.length c2,.slice A3 x.2.2.2.1.length c3,.slice A4 x.2.2.2.2.length c4] x _:=(mkO_P good_I ⟨⟨rfl,b0⟩,rfl⟩ (mkO_P good_B ⟨rfl,rfl⟩ (mkO_P (good_L good_S) ⟨A2,c2,rfl,b2⟩ (mkO_P (good_L good_S) ⟨A3,c3,rfl,b3⟩ ⟨A4,c4,rfl,b4⟩))))
 simpa using h
theorem atSlot {w:World} {lo hi:Nat} {A:Option Addr} {c:Nat} {xs:List TSlot} (h:SR shSlot w lo hi A c xs) {i:Nat} (hi':i<xs.length) :
   ∃(g off:Nat) (A2:Option Addr) (c2:Nat) (A3:Option Addr) (c3:Nat) (A4:Option Addr) (c4:Nat),A=some ⟨g,off,none⟩∧lo≤g∧g<hi∧w.cell? ⟨g,off+i*5,none⟩=some (.int .i64 xs[i].1)∧w.cell? ⟨g,off+i*5+1,none⟩=some (.bool xs[i].2.1)∧w.cell? ⟨g,off+i*5+2,none⟩=some (.slice A2 xs[i].2.2.1.length c2)∧w.cell? ⟨g,off+i*5+3,none⟩=some (.slice A3 xs[i].2.2.2.1.length c3)∧w.cell? ⟨g,off+i*5+4,none⟩=some (.slice A4 xs[i].2.2.2.2.length c4)∧I64 xs[i].1∧SR shS w lo hi A2 c2 xs[i].2.2.1∧SR shS w lo hi A3 c3 xs[i].2.2.2.1∧SR shI w lo hi A4 c4 xs[i].2.2.2.2∧True:=by
 obtain ⟨g,off,cs,hA,h1,h2,hc,hr⟩:=h.at_ hi'
 obtain ⟨A2,c2,A3,c3,A4,c4,rfl,b0,b2,b3,b4⟩:=openSlot hr
 exact ⟨g,off,A2,c2,A3,c3,A4,c4,hA,h1,h2,hc.2 0 (by decide),hc.2 1 (by decide),hc.2 2 (by decide),hc.2 3 (by decide),hc.2 4 (by decide),b0,b2,b3,b4,trivial⟩
abbrev TBtree:Type:=Int × (List TSlot)
def shBtree:Sh TBtree:=(shP shI (shL shSlot))
theorem good_Btree:Good shBtree:=(good_P good_I (good_L good_Slot))
theorem openBtree {w:World} {lo hi:Nat} {cs:List Value} {x:TBtree} (h:shBtree.rep w lo hi cs x) :
   ∃(A1:Option Addr) (c1:Nat),cs=[.int .i64 x.1,.slice A1 x.2.length c1]∧I64 x.1∧SR shSlot w lo hi A1 c1 x.2:=by
 obtain ⟨p1,q1,rfl,l1,r1⟩:=open_P h
 obtain ⟨rfl,b0⟩:=l1
 obtain ⟨A1,c1,rfl,b1⟩:=r1
 exact ⟨A1,c1,rfl,b0,b1⟩
theorem mkBtree {w:World} {lo hi:Nat} {x:TBtree} {A1:Option Addr} {c1:Nat} (b0:I64 x.1) (b1:SR shSlot w lo hi A1 c1 x.2):shBtree.rep w lo hi [.int .i64 x.1,.slice A1 x.2.length c1] x :=
 (mk_P good_I ⟨rfl,b0⟩ ⟨A1,c1,rfl,b1⟩)
theorem openOBtree {w:World} {lo hi:Nat} {cs:List Value} {x:TBtree} {bl:List Nat} (h:shBtree.own w lo hi cs x bl) :
   ∃(A1:Option Addr) (c1:Nat) (bl1:List Nat),cs=[.int .i64 x.1,.slice A1 x.2.length c1]∧bl=bl1∧I64 x.1∧SO shSlot w lo hi A1 c1 x.2 bl1:=by
 obtain ⟨p1,q1,_,_,rfl,rfl,l1,r1⟩:=openO_P h
 obtain ⟨⟨rfl,b0⟩,rfl⟩:=l1
 obtain ⟨A1,c1,rfl,b1⟩:=r1
 exact ⟨A1,c1,_,rfl,by simp,b0,b1⟩
theorem mkOBtree {w:World} {lo hi:Nat} {x:TBtree} {A1:Option Addr} {c1:Nat} {bl1:List Nat} (b0:I64 x.1) (b1:SO shSlot w lo hi A1 c1 x.2 bl1):shBtree.own w lo hi [.int .i64 x.1,.slice A1 x.2.length c1] x (bl1):=by
 have h:shBtree.own w lo hi [.int .i64 x.1,.slice A1 x.2.length c1] x _:=(mkO_P good_I ⟨⟨rfl,b0⟩,rfl⟩ ⟨A1,c1,rfl,b1⟩)
 simpa using h
abbrev TJournal:Type:=TDisk × Int × Int × Int × Int
def shJournal:Sh TJournal:=(shP shDisk (shP shI (shP shI (shP shI shI))))
theorem good_Journal:Good shJournal:=(good_P good_Disk (good_P good_I (good_P good_I (good_P good_I good_I))))
theorem openJournal {w:World} {lo hi:Nat} {cs:List Value} {x:TJournal} (h:shJournal.rep w lo hi cs x) :
   ∃(A1:Option Addr) (c1:Nat) (A2:Option Addr) (c2:Nat),cs=[.int .i64 x.1.1,.slice A1 x.1.2.1.length c1,.slice A2 x.1.2.2.length c2,.int .i64 x.2.1,.int .i64 x.2.2.1,.int .i64 x.2.2.2.1,.int .i64 x.2.2.2.2]∧I64 x.1.1∧SR shS w lo hi A1 c1 x.1.2.1∧SR shPut w lo hi A2 c2 x.1.2.2∧I64 x.2.1∧I64 x.2.2.1∧I64 x.2.2.2.1∧I64 x.2.2.2.2:=by
 obtain ⟨p1,q1,rfl,l1,r1⟩:=open_P h
 obtain ⟨p2,q2,rfl,l2,r2⟩:=open_P l1
 obtain ⟨rfl,b0⟩:=l2
 obtain ⟨p3,q3,rfl,l3,r3⟩:=open_P r2
 obtain ⟨A1,c1,rfl,b1⟩:=l3
 obtain ⟨A2,c2,rfl,b2⟩:=r3
 obtain ⟨p4,q4,rfl,l4,r4⟩:=open_P r1
 obtain ⟨rfl,b3⟩:=l4
 obtain ⟨p5,q5,rfl,l5,r5⟩:=open_P r4
 obtain ⟨rfl,b4⟩:=l5
 obtain ⟨p6,q6,rfl,l6,r6⟩:=open_P r5
 obtain ⟨rfl,b5⟩:=l6
 obtain ⟨rfl,b6⟩:=r6
 exact ⟨A1,c1,A2,c2,rfl,b0,b1,b2,b3,b4,b5,b6⟩
theorem mkJournal {w:World} {lo hi:Nat} {x:TJournal} {A1:Option Addr} {c1:Nat} {A2:Option Addr} {c2:Nat} (b0:I64 x.1.1) (b1:SR shS w lo hi A1 c1 x.1.2.1) (b2:SR shPut w lo hi A2 c2 x.1.2.2) (b3:I64 x.2.1) (b4:I64 x.2.2.1) (b5:I64 x.2.2.2.1) (b6:I64 x.2.2.2.2):shJournal.rep w lo hi [.int .i64 x.1.1,.slice A1 x.1.2.1.length c1,.slice A2 x.1.2.2.length c2,.int .i64 x.2.1,.int .i64 x.2.2.1,.int .i64 x.2.2.2.1,.int .i64 x.2.2.2.2] x :=
 (mk_P good_Disk (mk_P good_I ⟨rfl,b0⟩ (mk_P (good_L good_S) ⟨A1,c1,rfl,b1⟩ ⟨A2,c2,rfl,b2⟩)) (mk_P good_I ⟨rfl,b3⟩ (mk_P good_I ⟨rfl,b4⟩ (mk_P good_I ⟨rfl,b5⟩ ⟨rfl,b6⟩))))
theorem openOJournal {w:World} {lo hi:Nat} {cs:List Value} {x:TJournal} {bl:List Nat} (h:shJournal.own w lo hi cs x bl) :
   ∃(A1:Option Addr) (c1:Nat) (bl1:List Nat) (A2:Option Addr) (c2:Nat) (bl2:List Nat),cs=[.int .i64 x.1.1,.slice A1 x.1.2.1.length c1,.slice A2 x.1.2.2.length c2,.int .i64 x.2.1,.int .i64 x.2.2.1,.int .i64 x.2.2.2.1,.int .i64 x.2.2.2.2]∧bl=bl1++bl2∧I64 x.1.1∧SO shS w lo hi A1 c1 x.1.2.1 bl1∧SO shPut w lo hi A2 c2 x.1.2.2 bl2∧I64 x.2.1∧I64 x.2.2.1∧I64 x.2.2.2.1∧I64 x.2.2.2.2:=by
 obtain ⟨p1,q1,_,_,rfl,rfl,l1,r1⟩:=openO_P h
 obtain ⟨p2,q2,_,_,rfl,rfl,l2,r2⟩:=openO_P l1
 obtain ⟨⟨rfl,b0⟩,rfl⟩:=l2
 obtain ⟨p3,q3,_,_,rfl,rfl,l3,r3⟩:=openO_P r2
 obtain ⟨A1,c1,rfl,b1⟩:=l3
 obtain ⟨A2,c2,rfl,b2⟩:=r3
 obtain ⟨p4,q4,_,_,rfl,rfl,l4,r4⟩:=openO_P r1
 obtain ⟨⟨rfl,b3⟩,rfl⟩:=l4
 obtain ⟨p5,q5,_,_,rfl,rfl,l5,r5⟩:=openO_P r4
 obtain ⟨⟨rfl,b4⟩,rfl⟩:=l5
 obtain ⟨p6,q6,_,_,rfl,rfl,l6,r6⟩:=openO_P r5
 obtain ⟨⟨rfl,b5⟩,rfl⟩:=l6
 obtain ⟨⟨rfl,b6⟩,rfl⟩:=r6
 exact ⟨A1,c1,_,A2,c2,_,rfl,by simp,b0,b1,b2,b3,b4,b5,b6⟩
theorem mkOJournal {w:World} {lo hi:Nat} {x:TJournal} {A1:Option Addr} {c1:Nat} {bl1:List Nat} {A2:Option Addr} {c2:Nat} {bl2:List Nat} (b0:I64 x.1.1) (b1:SO shS w lo hi A1 c1 x.1.2.1 bl1) (b2:SO shPut w lo hi A2 c2 x.1.2.2 bl2) (b3:I64 x.2.1) (b4:I64 x.2.2.1) (b5:I64 x.2.2.2.1) (b6:I64 x.2.2.2.2):shJournal.own w lo hi [.int .i64 x.1.1,.slice A1 x.1.2.1.length c1,.slice A2 x.1.2.2.length c2,.int .i64 x.2.1,.int .i64 x.2.2.1,.int .i64 x.2.2.2.1,.int .i64 x.2.2.2.2] x (bl1++bl2):=by
 have h:shJournal.own w lo hi [.int .i64 x.1.1,.slice A1 x.1.2.1.length c1,.slice A2 x.1.2.2.length c2,.int .i64 x.2.1,.int .i64 x.2.2.1,.int .i64 x.2.2.2.1,.int .i64 x.2.2.2.2] x _:=(mkO_P good_Disk (mkO_P good_I ⟨⟨rfl,b0⟩,rfl⟩ (mkO_P (good_L good_S) ⟨A1,c1,rfl,b1⟩ ⟨A2,c2,rfl,b2⟩)) (mkO_P good_I ⟨⟨rfl,b3⟩,rfl⟩ (mkO_P good_I ⟨⟨rfl,b4⟩,rfl⟩ (mkO_P good_I ⟨⟨rfl,b5⟩,rfl⟩ ⟨⟨rfl,b6⟩,rfl⟩))))
 simpa using h
abbrev TNode:Type:=ByteArray × (List ByteArray) × ByteArray
abbrev TTree:Type:=(List TNode)
abbrev TImage:Type:=ByteArray × (List ByteArray) × Bool × ByteArray × Bool × ByteArray
abbrev TCache:Type:=TDisk × TTop × TTop × (List TSeat) × (List Int)
def shCache:Sh TCache:=(shP shDisk (shP shTop (shP shTop (shP (shL shSeat) (shL shI)))))
theorem good_Cache:Good shCache:=(good_P good_Disk (good_P good_Top (good_P good_Top (good_P (good_L good_Seat) (good_L good_I)))))
theorem openCache {w:World} {lo hi:Nat} {cs:List Value} {x:TCache} (h:shCache.rep w lo hi cs x) :
   ∃(A1:Option Addr) (c1:Nat) (A2:Option Addr) (c2:Nat) (A6:Option Addr) (c6:Nat) (A10:Option Addr) (c10:Nat) (A11:Option Addr) (c11:Nat) (A12:Option Addr) (c12:Nat),cs=[.int .i64 x.1.1,.slice A1 x.1.2.1.length c1,.slice A2 x.1.2.2.length c2,.int .i64 x.2.1.1,.int .i64 x.2.1.2.1,.int .i64 x.2.1.2.2.1,.slice A6 x.2.1.2.2.2.length c6,.int .i64 x.2.2.1.1,.int .i64 x.2.2.1.2.1,.int .i64 x.2.2.1.2.2.1,.slice A10 x.2.2.1.2.2.2.length c10,.slice A11 x.2.2.2.1.length c11,.slice A12 x.2.2.2.2.length c12]∧I64 x.1.1∧SR shS w lo hi A1 c1 x.1.2.1∧SR shPut w lo hi A2 c2 x.1.2.2∧I64 x.2.1.1∧I64 x.2.1.2.1∧I64 x.2.1.2.2.1∧SR shSeat w lo hi A6 c6 x.2.1.2.2.2∧I64 x.2.2.1.1∧I64 x.2.2.1.2.1∧I64 x.2.2.1.2.2.1∧SR shSeat w lo hi A10 c10 x.2.2.1.2.2.2∧SR shSeat w lo hi A11 c11 x.2.2.2.1∧SR shI w lo hi A12 c12 x.2.2.2.2:=by
 obtain ⟨p1,q1,rfl,l1,r1⟩:=open_P h
 obtain ⟨p2,q2,rfl,l2,r2⟩:=open_P l1
 obtain ⟨rfl,b0⟩:=l2
 obtain ⟨p3,q3,rfl,l3,r3⟩:=open_P r2
 obtain ⟨A1,c1,rfl,b1⟩:=l3
 obtain ⟨A2,c2,rfl,b2⟩:=r3
 obtain ⟨p4,q4,rfl,l4,r4⟩:=open_P r1
 obtain ⟨p5,q5,rfl,l5,r5⟩:=open_P l4
 obtain ⟨rfl,b3⟩:=l5
 obtain ⟨p6,q6,rfl,l6,r6⟩:=open_P r5
 obtain ⟨rfl,b4⟩:=l6
 obtain ⟨p7,q7,rfl,l7,r7⟩:=open_P r6
 obtain ⟨rfl,b5⟩:=l7
 obtain ⟨A6,c6,rfl,b6⟩:=r7
 obtain ⟨p8,q8,rfl,l8,r8⟩:=open_P r4
 obtain ⟨p9,q9,rfl,l9,r9⟩:=open_P l8
 obtain ⟨rfl,b7⟩:=l9
 obtain ⟨p10,q10,rfl,l10,r10⟩:=open_P r9
 obtain ⟨rfl,b8⟩:=l10
 obtain ⟨p11,q11,rfl,l11,r11⟩:=open_P r10
 obtain ⟨rfl,b9⟩:=l11
 obtain ⟨A10,c10,rfl,b10⟩:=r11
 obtain ⟨p12,q12,rfl,l12,r12⟩:=open_P r8
 obtain ⟨A11,c11,rfl,b11⟩:=l12
 obtain ⟨A12,c12,rfl,b12⟩:=r12
 exact ⟨A1,c1,A2,c2,A6,c6,A10,c10,A11,c11,A12,c12,rfl,b0,b1,b2,b3,b4,b5,b6,b7,b8,b9,b10,b11,b12⟩
theorem mkCache {w:World} {lo hi:Nat} {x:TCache} {A1:Option Addr} {c1:Nat} {A2:Option Addr} {c2:Nat} {A6:Option Addr} {c6:Nat} {A10:Option Addr} {c10:Nat} {A11:Option Addr} {c11:Nat} {A12:Option Addr} {c12:Nat} (b0:I64 x.1.1) (b1:SR shS w lo hi A1 c1 x.1.2.1) (b2:SR shPut w lo hi A2 c2 x.1.2.2) (b3:I64 x.2.1.1) (b4:I64 x.2.1.2.1) (b5:I64 x.2.1.2.2.1) (b6:SR shSeat w lo hi A6 c6 x.2.1.2.2.2) (b7:I64 x.2.2.1.1) (b8:I64 x.2.2.1.2.1) (b9:I64 x.2.2.1.2.2.1) (b10:SR shSeat w lo hi A10 c10 x.2.2.1.2.2.2) (b11:SR shSeat w lo hi A11 c11 x.2.2.2.1) (b12:SR shI w lo hi A12 c12 x.2.2.2.2):shCache.rep w lo hi [.int .i64 x.1.1,.slice A1 x.1.2.1.length c1,.slice A2 x.1.2.2.length c2,.int .i64 x.2.1.1,.int .i64 x.2.1.2.1,.int .i64 x.2.1.2.2.1,.slice A6 x.2.1.2.2.2.length c6,.int .i64 x.2.2.1.1,.int .i64 x.2.2.1.2.1,.int .i64 x.2.2.1.2.2.1,.slice A10 x.2.2.1.2.2.2.length c10,.slice A11 x.2.2.2.1.length c11,.slice A12 x.2.2.2.2.length c12] x :=
 (mk_P good_Disk (mk_P good_I ⟨rfl,b0⟩ (mk_P (good_L good_S) ⟨A1,c1,rfl,b1⟩ ⟨A2,c2,rfl,b2⟩)) (mk_P good_Top (mk_P good_I ⟨rfl,b3⟩ (mk_P good_I ⟨rfl,b4⟩ (mk_P good_I ⟨rfl,b5⟩ ⟨A6,c6,rfl,b6⟩))) (mk_P good_Top (mk_P good_I ⟨rfl,b7⟩ (mk_P good_I ⟨rfl,b8⟩ (mk_P good_I ⟨rfl,b9⟩ ⟨A10,c10,rfl,b10⟩))) (mk_P (good_L good_Seat) ⟨A11,c11,rfl,b11⟩ ⟨A12,c12,rfl,b12⟩))))
theorem openOCache {w:World} {lo hi:Nat} {cs:List Value} {x:TCache} {bl:List Nat} (h:shCache.own w lo hi cs x bl) :
   ∃(A1:Option Addr) (c1:Nat) (bl1:List Nat) (A2:Option Addr) (c2:Nat) (bl2:List Nat) (A6:Option Addr) (c6:Nat) (bl6:List Nat) (A10:Option Addr) (c10:Nat) (bl10:List Nat) (A11:Option Addr) (c11:Nat) (bl11:List Nat) (A12:Option Addr) (c12:Nat) (bl12:List Nat),cs=[.int .i64 x.1.1,.slice A1 x.1.2.1.length c1,.slice A2 x.1.2.2.length c2,.int .i64 x.2.1.1,.int .i64 x.2.1.2.1,.int .i64 x.2.1.2.2.1,.slice A6 x.2.1.2.2.2.length c6,.int .i64 x.2.2.1.1,.int .i64 x.2.2.1.2.1,.int .i64 x.2.2.1.2.2.1,.slice A10 x.2.2.1.2.2.2.length c10,.slice A11 x.2.2.2.1.length c11,.slice A12 x.2.2.2.2.length c12]∧bl=bl1++bl2++bl6++bl10++bl11++bl12∧I64 x.1.1∧SO shS w lo hi A1 c1 x.1.2.1 bl1∧SO shPut w lo hi A2 c2 x.1.2.2 bl2∧I64 x.2.1.1∧I64 x.2.1.2.1∧I64 x.2.1.2.2.1∧SO shSeat w lo hi A6 c6 x.2.1.2.2.2 bl6∧I64 x.2.2.1.1∧I64 x.2.2.1.2.1∧I64 x.2.2.1.2.2.1∧SO shSeat w lo hi A10 c10 x.2.2.1.2.2.2 bl10∧SO shSeat w lo hi A11 c11 x.2.2.2.1 bl11∧SO shI w lo hi A12 c12 x.2.2.2.2 bl12:=by
 obtain ⟨p1,q1,_,_,rfl,rfl,l1,r1⟩:=openO_P h
 obtain ⟨p2,q2,_,_,rfl,rfl,l2,r2⟩:=openO_P l1
 obtain ⟨⟨rfl,b0⟩,rfl⟩:=l2
 obtain ⟨p3,q3,_,_,rfl,rfl,l3,r3⟩:=openO_P r2
 obtain ⟨A1,c1,rfl,b1⟩:=l3
 obtain ⟨A2,c2,rfl,b2⟩:=r3
 obtain ⟨p4,q4,_,_,rfl,rfl,l4,r4⟩:=openO_P r1
 obtain ⟨p5,q5,_,_,rfl,rfl,l5,r5⟩:=openO_P l4
 obtain ⟨⟨rfl,b3⟩,rfl⟩:=l5
 obtain ⟨p6,q6,_,_,rfl,rfl,l6,r6⟩:=openO_P r5
 obtain ⟨⟨rfl,b4⟩,rfl⟩:=l6
 obtain ⟨p7,q7,_,_,rfl,rfl,l7,r7⟩:=openO_P r6
 obtain ⟨⟨rfl,b5⟩,rfl⟩:=l7
 obtain ⟨A6,c6,rfl,b6⟩:=r7
 obtain ⟨p8,q8,_,_,rfl,rfl,l8,r8⟩:=openO_P r4
 obtain ⟨p9,q9,_,_,rfl,rfl,l9,r9⟩:=openO_P l8
 obtain ⟨⟨rfl,b7⟩,rfl⟩:=l9
 obtain ⟨p10,q10,_,_,rfl,rfl,l10,r10⟩:=openO_P r9
 obtain ⟨⟨rfl,b8⟩,rfl⟩:=l10
 obtain ⟨p11,q11,_,_,rfl,rfl,l11,r11⟩:=openO_P r10
 obtain ⟨⟨rfl,b9⟩,rfl⟩:=l11
 obtain ⟨A10,c10,rfl,b10⟩:=r11
 obtain ⟨p12,q12,_,_,rfl,rfl,l12,r12⟩:=openO_P r8
 obtain ⟨A11,c11,rfl,b11⟩:=l12
 obtain ⟨A12,c12,rfl,b12⟩:=r12
 exact ⟨A1,c1,_,A2,c2,_,A6,c6,_,A10,c10,_,A11,c11,_,A12,c12,_,rfl,by simp,b0,b1,b2,b3,b4,b5,b6,b7,b8,b9,b10,b11,b12⟩
theorem mkOCache {w:World} {lo hi:Nat} {x:TCache} {A1:Option Addr} {c1:Nat} {bl1:List Nat} {A2:Option Addr} {c2:Nat} {bl2:List Nat} {A6:Option Addr} {c6:Nat} {bl6:List Nat} {A10:Option Addr} {c10:Nat} {bl10:List Nat} {A11:Option Addr} {c11:Nat} {bl11:List Nat} {A12:Option Addr} {c12:Nat} {bl12:List Nat} (b0:I64 x.1.1) (b1:SO shS w lo hi A1 c1 x.1.2.1 bl1) (b2:SO shPut w lo hi A2 c2 x.1.2.2 bl2) (b3:I64 x.2.1.1) (b4:I64 x.2.1.2.1) (b5:I64 x.2.1.2.2.1) (b6:SO shSeat w lo hi A6 c6 x.2.1.2.2.2 bl6) (b7:I64 x.2.2.1.1) (b8:I64 x.2.2.1.2.1) (b9:I64 x.2.2.1.2.2.1) (b10:SO shSeat w lo hi A10 c10 x.2.2.1.2.2.2 bl10) (b11:SO shSeat w lo hi A11 c11 x.2.2.2.1 bl11) (b12:SO shI w lo hi A12 c12 x.2.2.2.2 bl12):shCache.own w lo hi [.int .i64 x.1.1,.slice A1 x.1.2.1.length c1,.slice A2 x.1.2.2.length c2,.int .i64 x.2.1.1,.int .i64 x.2.1.2.1,.int .i64 x.2.1.2.2.1,.slice A6 x.2.1.2.2.2.length c6,.int .i64 x.2.2.1.1,.int .i64 x.2.2.1.2.1,.int .i64 x.2.2.1.2.2.1,.slice A10 x.2.2.1.2.2.2.length c10,.slice A11 x.2.2.2.1.length c11,.slice A12 x.2.2.2.2.length c12] x (bl1++bl2++bl6++bl10++bl11++bl12):=by
 have h:shCache.own w lo hi [.int .i64 x.1.1,.slice A1 x.1.2.1.length c1,.slice A2 x.1.2.2.length c2,.int .i64 x.2.1.1,.int .i64 x.2.1.2.1,.int .i64 x.2.1.2.2.1,.slice A6 x.2.1.2.2.2.length c6,.int .i64 x.2.2.1.1,.int .i64 x.2.2.1.2.1,.int .i64 x.2.2.1.2.2.1,.slice A10 x.2.2.1.2.2.2.length c10,.slice A11 x.2.2.2.1.length c11,.slice A12 x.2.2.2.2.length c12] x _:=(mkO_P good_Disk (mkO_P good_I ⟨⟨rfl,b0⟩,rfl⟩ (mkO_P (good_L good_S) ⟨A1,c1,rfl,b1⟩ ⟨A2,c2,rfl,b2⟩)) (mkO_P good_Top (mkO_P good_I ⟨⟨rfl,b3⟩,rfl⟩ (mkO_P good_I ⟨⟨rfl,b4⟩,rfl⟩ (mkO_P good_I ⟨⟨rfl,b5⟩,rfl⟩ ⟨A6,c6,rfl,b6⟩))) (mkO_P good_Top (mkO_P good_I ⟨⟨rfl,b7⟩,rfl⟩ (mkO_P good_I ⟨⟨rfl,b8⟩,rfl⟩ (mkO_P good_I ⟨⟨rfl,b9⟩,rfl⟩ ⟨A10,c10,rfl,b10⟩))) (mkO_P (good_L good_Seat) ⟨A11,c11,rfl,b11⟩ ⟨A12,c12,rfl,b12⟩))))
 simpa using h
abbrev TBase:Type:=TBtree × TCache × TJournal × Int × Int
def shBase:Sh TBase:=(shP shBtree (shP shCache (shP shJournal (shP shI shI))))
theorem good_Base:Good shBase:=(good_P good_Btree (good_P good_Cache (good_P good_Journal (good_P good_I good_I))))
theorem openBase {w:World} {lo hi:Nat} {cs:List Value} {x:TBase} (h:shBase.rep w lo hi cs x) :
   ∃(A1:Option Addr) (c1:Nat) (A3:Option Addr) (c3:Nat) (A4:Option Addr) (c4:Nat) (A8:Option Addr) (c8:Nat) (A12:Option Addr) (c12:Nat) (A13:Option Addr) (c13:Nat) (A14:Option Addr) (c14:Nat) (A16:Option Addr) (c16:Nat) (A17:Option Addr) (c17:Nat),cs=[.int .i64 x.1.1,.slice A1 x.1.2.length c1,.int .i64 x.2.1.1.1,.slice A3 x.2.1.1.2.1.length c3,.slice A4 x.2.1.1.2.2.length c4,.int .i64 x.2.1.2.1.1,.int .i64 x.2.1.2.1.2.1,.int .i64 x.2.1.2.1.2.2.1,.slice A8 x.2.1.2.1.2.2.2.length c8,.int .i64 x.2.1.2.2.1.1,.int .i64 x.2.1.2.2.1.2.1,.int .i64 x.2.1.2.2.1.2.2.1,.slice A12 x.2.1.2.2.1.2.2.2.length c12,.slice A13 x.2.1.2.2.2.1.length c13,.slice A14 x.2.1.2.2.2.2.length c14,.int .i64 x.2.2.1.1.1,.slice A16 x.2.2.1.1.2.1.length c16,.slice A17 x.2.2.1.1.2.2.length c17,.int .i64 x.2.2.1.2.1,.int .i64 x.2.2.1.2.2.1,.int .i64 x.2.2.1.2.2.2.1,.int .i64 x.2.2.1.2.2.2.2,.int .i64 x.2.2.2.1,.int .i64 x.2.2.2.2]∧I64 x.1.1∧SR shSlot w lo hi A1 c1 x.1.2∧I64 x.2.1.1.1∧SR shS w lo hi A3 c3 x.2.1.1.2.1∧SR shPut w lo hi A4 c4 x.2.1.1.2.2∧I64 x.2.1.2.1.1∧I64 x.2.1.2.1.2.1∧I64 x.2.1.2.1.2.2.1∧SR shSeat w lo hi A8 c8 x.2.1.2.1.2.2.2∧I64 x.2.1.2.2.1.1∧I64 x.2.1.2.2.1.2.1∧I64 x.2.1.2.2.1.2.2.1∧SR shSeat w lo hi A12 c12 x.2.1.2.2.1.2.2.2∧SR shSeat w lo hi A13 c13 x.2.1.2.2.2.1∧SR shI w lo hi A14 c14 x.2.1.2.2.2.2∧I64 x.2.2.1.1.1∧SR shS w lo hi A16 c16 x.2.2.1.1.2.1∧SR shPut w lo hi A17 c17 x.2.2.1.1.2.2∧I64 x.2.2.1.2.1∧I64 x.2.2.1.2.2.1∧I64 x.2.2.1.2.2.2.1∧I64 x.2.2.1.2.2.2.2∧I64 x.2.2.2.1∧I64 x.2.2.2.2:=by
 obtain ⟨p1,q1,rfl,l1,r1⟩:=open_P h
 obtain ⟨p2,q2,rfl,l2,r2⟩:=open_P l1
 obtain ⟨rfl,b0⟩:=l2
 obtain ⟨A1,c1,rfl,b1⟩:=r2
 obtain ⟨p3,q3,rfl,l3,r3⟩:=open_P r1
 obtain ⟨p4,q4,rfl,l4,r4⟩:=open_P l3
 obtain ⟨p5,q5,rfl,l5,r5⟩:=open_P l4
 obtain ⟨rfl,b2⟩:=l5
 obtain ⟨p6,q6,rfl,l6,r6⟩:=open_P r5
 obtain ⟨A3,c3,rfl,b3⟩:=l6
 obtain ⟨A4,c4,rfl,b4⟩:=r6
 obtain ⟨p7,q7,rfl,l7,r7⟩:=open_P r4
 obtain ⟨p8,q8,rfl,l8,r8⟩:=open_P l7
 obtain ⟨rfl,b5⟩:=l8
 obtain ⟨p9,q9,rfl,l9,r9⟩:=open_P r8
 obtain ⟨rfl,b6⟩:=l9
 obtain ⟨p10,q10,rfl,l10,r10⟩:=open_P r9
 obtain ⟨rfl,b7⟩:=l10
 obtain ⟨A8,c8,rfl,b8⟩:=r10
 obtain ⟨p11,q11,rfl,l11,r11⟩:=open_P r7
 obtain ⟨p12,q12,rfl,l12,r12⟩:=open_P l11
 obtain ⟨rfl,b9⟩:=l12
 obtain ⟨p13,q13,rfl,l13,r13⟩:=open_P r12
 obtain ⟨rfl,b10⟩:=l13
 obtain ⟨p14,q14,rfl,l14,r14⟩:=open_P r13
 obtain ⟨rfl,b11⟩:=l14
 obtain ⟨A12,c12,rfl,b12⟩:=r14
 obtain ⟨p15,q15,rfl,l15,r15⟩:=open_P r11
 obtain ⟨A13,c13,rfl,b13⟩:=l15
 obtain ⟨A14,c14,rfl,b14⟩:=r15
 obtain ⟨p16,q16,rfl,l16,r16⟩:=open_P r3
 obtain ⟨p17,q17,rfl,l17,r17⟩:=open_P l16
 obtain ⟨p18,q18,rfl,l18,r18⟩:=open_P l17
 obtain ⟨rfl,b15⟩:=l18
 obtain ⟨p19,q19,rfl,l19,r19⟩:=open_P r18
 obtain ⟨A16,c16,rfl,b16⟩:=l19
 obtain ⟨A17,c17,rfl,b17⟩:=r19
 obtain ⟨p20,q20,rfl,l20,r20⟩:=open_P r17
 obtain ⟨rfl,b18⟩:=l20
 obtain ⟨p21,q21,rfl,l21,r21⟩:=open_P r20
 obtain ⟨rfl,b19⟩:=l21
 obtain ⟨p22,q22,rfl,l22,r22⟩:=open_P r21
 obtain ⟨rfl,b20⟩:=l22
 obtain ⟨rfl,b21⟩:=r22
 obtain ⟨p23,q23,rfl,l23,r23⟩:=open_P r16
 obtain ⟨rfl,b22⟩:=l23
 obtain ⟨rfl,b23⟩:=r23
 exact ⟨A1,c1,A3,c3,A4,c4,A8,c8,A12,c12,A13,c13,A14,c14,A16,c16,A17,c17,rfl,b0,b1,b2,b3,b4,b5,b6,b7,b8,b9,b10,b11,b12,b13,b14,b15,b16,b17,b18,b19,b20,b21,b22,b23⟩
theorem openOBase {w:World} {lo hi:Nat} {cs:List Value} {x:TBase} {bl:List Nat} (h:shBase.own w lo hi cs x bl) :
   ∃(A1:Option Addr) (c1:Nat) (bl1:List Nat) (A3:Option Addr) (c3:Nat) (bl3:List Nat) (A4:Option Addr) (c4:Nat) (bl4:List Nat) (A8:Option Addr) (c8:Nat) (bl8:List Nat) (A12:Option Addr) (c12:Nat) (bl12:List Nat) (A13:Option Addr) (c13:Nat) (bl13:List Nat) (A14:Option Addr) (c14:Nat) (bl14:List Nat) (A16:Option Addr) (c16:Nat) (bl16:List Nat) (A17:Option Addr) (c17:Nat) (bl17:List Nat),cs=[.int .i64 x.1.1,.slice A1 x.1.2.length c1,.int .i64 x.2.1.1.1,.slice A3 x.2.1.1.2.1.length c3,.slice A4 x.2.1.1.2.2.length c4,.int .i64 x.2.1.2.1.1,.int .i64 x.2.1.2.1.2.1,.int .i64 x.2.1.2.1.2.2.1,.slice A8 x.2.1.2.1.2.2.2.length c8,.int .i64 x.2.1.2.2.1.1,.int .i64 x.2.1.2.2.1.2.1,.int .i64 x.2.1.2.2.1.2.2.1,.slice A12 x.2.1.2.2.1.2.2.2.length c12,.slice A13 x.2.1.2.2.2.1.length c13,.slice A14 x.2.1.2.2.2.2.length c14,.int .i64 x.2.2.1.1.1,.slice A16 x.2.2.1.1.2.1.length c16,.slice A17 x.2.2.1.1.2.2.length c17,.int .i64 x.2.2.1.2.1,.int .i64 x.2.2.1.2.2.1,.int .i64 x.2.2.1.2.2.2.1,.int .i64 x.2.2.1.2.2.2.2,.int .i64 x.2.2.2.1,.int .i64 x.2.2.2.2]∧bl=bl1++bl3++bl4++bl8++bl12++bl13++bl14++bl16++bl17∧I64 x.1.1∧SO shSlot w lo hi A1 c1 x.1.2 bl1∧I64 x.2.1.1.1∧SO shS w lo hi A3 c3 x.2.1.1.2.1 bl3∧SO shPut w lo hi A4 c4 x.2.1.1.2.2 bl4∧I64 x.2.1.2.1.1∧I64 x.2.1.2.1.2.1∧I64 x.2.1.2.1.2.2.1∧SO shSeat w lo hi A8 c8 x.2.1.2.1.2.2.2 bl8∧I64 x.2.1.2.2.1.1∧I64 x.2.1.2.2.1.2.1∧I64 x.2.1.2.2.1.2.2.1∧SO shSeat w lo hi A12 c12 x.2.1.2.2.1.2.2.2 bl12∧SO shSeat w lo hi A13 c13 x.2.1.2.2.2.1 bl13∧SO shI w lo hi A14 c14 x.2.1.2.2.2.2 bl14∧I64 x.2.2.1.1.1∧SO shS w lo hi A16 c16 x.2.2.1.1.2.1 bl16∧SO shPut w lo hi A17 c17 x.2.2.1.1.2.2 bl17∧I64 x.2.2.1.2.1∧I64 x.2.2.1.2.2.1∧I64 x.2.2.1.2.2.2.1∧I64 x.2.2.1.2.2.2.2∧I64 x.2.2.2.1∧I64 x.2.2.2.2:=by
 obtain ⟨p1,q1,_,_,rfl,rfl,l1,r1⟩:=openO_P h
 obtain ⟨p2,q2,_,_,rfl,rfl,l2,r2⟩:=openO_P l1
 obtain ⟨⟨rfl,b0⟩,rfl⟩:=l2
 obtain ⟨A1,c1,rfl,b1⟩:=r2
 obtain ⟨p3,q3,_,_,rfl,rfl,l3,r3⟩:=openO_P r1
 obtain ⟨p4,q4,_,_,rfl,rfl,l4,r4⟩:=openO_P l3
 obtain ⟨p5,q5,_,_,rfl,rfl,l5,r5⟩:=openO_P l4
 obtain ⟨⟨rfl,b2⟩,rfl⟩:=l5
 obtain ⟨p6,q6,_,_,rfl,rfl,l6,r6⟩:=openO_P r5
 obtain ⟨A3,c3,rfl,b3⟩:=l6
 obtain ⟨A4,c4,rfl,b4⟩:=r6
 obtain ⟨p7,q7,_,_,rfl,rfl,l7,r7⟩:=openO_P r4
 obtain ⟨p8,q8,_,_,rfl,rfl,l8,r8⟩:=openO_P l7
 obtain ⟨⟨rfl,b5⟩,rfl⟩:=l8
 obtain ⟨p9,q9,_,_,rfl,rfl,l9,r9⟩:=openO_P r8
 obtain ⟨⟨rfl,b6⟩,rfl⟩:=l9
 obtain ⟨p10,q10,_,_,rfl,rfl,l10,r10⟩:=openO_P r9
 obtain ⟨⟨rfl,b7⟩,rfl⟩:=l10
 obtain ⟨A8,c8,rfl,b8⟩:=r10
 obtain ⟨p11,q11,_,_,rfl,rfl,l11,r11⟩:=openO_P r7
 obtain ⟨p12,q12,_,_,rfl,rfl,l12,r12⟩:=openO_P l11
 obtain ⟨⟨rfl,b9⟩,rfl⟩:=l12
 obtain ⟨p13,q13,_,_,rfl,rfl,l13,r13⟩:=openO_P r12
 obtain ⟨⟨rfl,b10⟩,rfl⟩:=l13
 obtain ⟨p14,q14,_,_,rfl,rfl,l14,r14⟩:=openO_P r13
 obtain ⟨⟨rfl,b11⟩,rfl⟩:=l14
 obtain ⟨A12,c12,rfl,b12⟩:=r14
 obtain ⟨p15,q15,_,_,rfl,rfl,l15,r15⟩:=openO_P r11
 obtain ⟨A13,c13,rfl,b13⟩:=l15
 obtain ⟨A14,c14,rfl,b14⟩:=r15
 obtain ⟨p16,q16,_,_,rfl,rfl,l16,r16⟩:=openO_P r3
 obtain ⟨p17,q17,_,_,rfl,rfl,l17,r17⟩:=openO_P l16
 obtain ⟨p18,q18,_,_,rfl,rfl,l18,r18⟩:=openO_P l17
 obtain ⟨⟨rfl,b15⟩,rfl⟩:=l18
 obtain ⟨p19,q19,_,_,rfl,rfl,l19,r19⟩:=openO_P r18
 obtain ⟨A16,c16,rfl,b16⟩:=l19
 obtain ⟨A17,c17,rfl,b17⟩:=r19
 obtain ⟨p20,q20,_,_,rfl,rfl,l20,r20⟩:=openO_P r17
 obtain ⟨⟨rfl,b18⟩,rfl⟩:=l20
 obtain ⟨p21,q21,_,_,rfl,rfl,l21,r21⟩:=openO_P r20
 obtain ⟨⟨rfl,b19⟩,rfl⟩:=l21
 obtain ⟨p22,q22,_,_,rfl,rfl,l22,r22⟩:=openO_P r21
 obtain ⟨⟨rfl,b20⟩,rfl⟩:=l22
 obtain ⟨⟨rfl,b21⟩,rfl⟩:=r22
 obtain ⟨p23,q23,_,_,rfl,rfl,l23,r23⟩:=openO_P r16
 obtain ⟨⟨rfl,b22⟩,rfl⟩:=l23
 obtain ⟨⟨rfl,b23⟩,rfl⟩:=r23
 exact ⟨A1,c1,_,A3,c3,_,A4,c4,_,A8,c8,_,A12,c12,_,A13,c13,_,A14,c14,_,A16,c16,_,A17,c17,_,rfl,by simp,b0,b1,b2,b3,b4,b5,b6,b7,b8,b9,b10,b11,b12,b13,b14,b15,b16,b17,b18,b19,b20,b21,b22,b23⟩
theorem mkOBase {w:World} {lo hi:Nat} {x:TBase} {A1:Option Addr} {c1:Nat} {bl1:List Nat} {A3:Option Addr} {c3:Nat} {bl3:List Nat} {A4:Option Addr} {c4:Nat} {bl4:List Nat} {A8:Option Addr} {c8:Nat} {bl8:List Nat} {A12:Option Addr} {c12:Nat} {bl12:List Nat} {A13:Option Addr} {c13:Nat} {bl13:List Nat} {A14:Option Addr} {c14:Nat} {bl14:List Nat} {A16:Option Addr} {c16:Nat} {bl16:List Nat} {A17:Option Addr} {c17:Nat} {bl17:List Nat} (b0:I64 x.1.1) (b1:SO shSlot w lo hi A1 c1 x.1.2 bl1) (b2:I64 x.2.1.1.1) (b3:SO shS w lo hi A3 c3 x.2.1.1.2.1 bl3) (b4:SO shPut w lo hi A4 c4 x.2.1.1.2.2 bl4) (b5:I64 x.2.1.2.1.1) (b6:I64 x.2.1.2.1.2.1) (b7:I64 x.2.1.2.1.2.2.1) (b8:SO shSeat w lo hi A8 c8 x.2.1.2.1.2.2.2 bl8) (b9:I64 x.2.1.2.2.1.1) (b10:I64 x.2.1.2.2.1.2.1) (b11:I64 x.2.1.2.2.1.2.2.1) (b12:SO shSeat w lo hi A12 c12 x.2.1.2.2.1.2.2.2 bl12) (b13:SO shSeat w lo hi A13 c13 x.2.1.2.2.2.1 bl13) (b14:SO shI w lo hi A14 c14 x.2.1.2.2.2.2 bl14) (b15:I64 x.2.2.1.1.1) (b16:SO shS w lo hi A16 c16 x.2.2.1.1.2.1 bl16) (b17:SO shPut w lo hi A17 c17 x.2.2.1.1.2.2 bl17) (b18:I64 x.2.2.1.2.1) (b19:I64 x.2.2.1.2.2.1) (b20:I64 x.2.2.1.2.2.2.1) (b21:I64 x.2.2.1.2.2.2.2) (b22:I64 x.2.2.2.1) (b23:I64 x.2.2.2.2):shBase.own w lo hi [.int .i64 x.1.1,.slice A1 x.1.2.length c1,.int .i64 x.2.1.1.1,.slice A3 x.2.1.1.2.1.length c3,.slice A4 x.2.1.1.2.2.length c4,.int .i64 x.2.1.2.1.1,.int .i64 x.2.1.2.1.2.1,.int .i64 x.2.1.2.1.2.2.1,.slice A8 x.2.1.2.1.2.2.2.length c8,.int .i64 x.2.1.2.2.1.1,.int .i64 x.2.1.2.2.1.2.1,.int .i64 x.2.1.2.2.1.2.2.1,.slice A12 x.2.1.2.2.1.2.2.2.length c12,.slice A13 x.2.1.2.2.2.1.length c13,.slice A14 x.2.1.2.2.2.2.length c14,.int .i64 x.2.2.1.1.1,.slice A16 x.2.2.1.1.2.1.length c16,.slice A17 x.2.2.1.1.2.2.length c17,.int .i64 x.2.2.1.2.1,.int .i64 x.2.2.1.2.2.1,.int .i64 x.2.2.1.2.2.2.1,.int .i64 x.2.2.1.2.2.2.2,.int .i64 x.2.2.2.1,.int .i64 x.2.2.2.2] x (bl1++bl3++bl4++bl8++bl12++bl13++bl14++bl16++bl17):=by
 have h:shBase.own w lo hi [.int .i64 x.1.1,.slice A1 x.1.2.length c1,.int .i64 x.2.1.1.1,.slice A3 x.2.1.1.2.1.length c3,.slice A4 x.2.1.1.2.2.length c4,.int .i64 x.2.1.2.1.1,.int .i64 x.2.1.2.1.2.1,.int .i64 x.2.1.2.1.2.2.1,.slice A8 x.2.1.2.1.2.2.2.length c8,.int .i64 x.2.1.2.2.1.1,.int .i64 x.2.1.2.2.1.2.1,.int .i64 x.2.1.2.2.1.2.2.1,.slice A12 x.2.1.2.2.1.2.2.2.length c12,.slice A13 x.2.1.2.2.2.1.length c13,.slice A14 x.2.1.2.2.2.2.length c14,.int .i64 x.2.2.1.1.1,.slice A16 x.2.2.1.1.2.1.length c16,.slice A17 x.2.2.1.1.2.2.length c17,.int .i64 x.2.2.1.2.1,.int .i64 x.2.2.1.2.2.1,.int .i64 x.2.2.1.2.2.2.1,.int .i64 x.2.2.1.2.2.2.2,.int .i64 x.2.2.2.1,.int .i64 x.2.2.2.2] x _:=(mkO_P good_Btree (mkO_P good_I ⟨⟨rfl,b0⟩,rfl⟩ ⟨A1,c1,rfl,b1⟩) (mkO_P good_Cache (mkO_P good_Disk (mkO_P good_I ⟨⟨rfl,b2⟩,rfl⟩ (mkO_P (good_L good_S) ⟨A3,c3,rfl,b3⟩ ⟨A4,c4,rfl,b4⟩)) (mkO_P good_Top (mkO_P good_I ⟨⟨rfl,b5⟩,rfl⟩ (mkO_P good_I ⟨⟨rfl,b6⟩,rfl⟩ (mkO_P good_I ⟨⟨rfl,b7⟩,rfl⟩ ⟨A8,c8,rfl,b8⟩))) (mkO_P good_Top (mkO_P good_I ⟨⟨rfl,b9⟩,rfl⟩ (mkO_P good_I ⟨⟨rfl,b10⟩,rfl⟩ (mkO_P good_I ⟨⟨rfl,b11⟩,rfl⟩ ⟨A12,c12,rfl,b12⟩))) (mkO_P (good_L good_Seat) ⟨A13,c13,rfl,b13⟩ ⟨A14,c14,rfl,b14⟩)))) (mkO_P good_Journal (mkO_P good_Disk (mkO_P good_I ⟨⟨rfl,b15⟩,rfl⟩ (mkO_P (good_L good_S) ⟨A16,c16,rfl,b16⟩ ⟨A17,c17,rfl,b17⟩)) (mkO_P good_I ⟨⟨rfl,b18⟩,rfl⟩ (mkO_P good_I ⟨⟨rfl,b19⟩,rfl⟩ (mkO_P good_I ⟨⟨rfl,b20⟩,rfl⟩ ⟨⟨rfl,b21⟩,rfl⟩)))) (mkO_P good_I ⟨⟨rfl,b22⟩,rfl⟩ ⟨⟨rfl,b23⟩,rfl⟩))))
 simpa using h
end Go.Proofs.YthdnicfbnihoaaaGreatDoor
namespace Go.Proofs.YthdnicfbnihoaaaGreatDoor
open Go.RowKit
set_option linter.unusedVariables false
theorem any_take_succ {α:Type} (p:α→Bool) (xs:List α) (k:Nat) (h:k<xs.length):(xs.take (k+1)).any p=((xs.take k).any p || p xs[k]):=by
 rw [List.take_succ_eq_append_getElem h,List.any_append];simp
theorem any_at {α:Type} (p:α→Bool) (xs:List α) (k:Nat) (h:k<xs.length) (hp:p xs[k]=true):xs.any p=true:=List.any_eq_true.2 ⟨_,List.getElem_mem h,hp⟩
theorem any_all {α:Type} (p:α→Bool) (xs:List α) (k:Nat) (h:(xs.take k).any p=false) (hk:xs.length≤k):xs.any p=false:=by rwa [List.take_of_length_le hk] at h
def IdxP {α:Type} (p:α→Bool) (xs:List α) (w:World) (e:Ending) (w':World):Prop :=
 ∃n:Int,e=.returned (.int .i64 n)∧Up w w'∧((n=-1∧xs.any p=false)∨∃i:Nat,n=i∧∃h:i<xs.length,p xs[i]=true∧(xs.take i).any p=false)
def BoolP (b:Bool) (w:World) (e:Ending) (w':World):Prop:=e=.returned (.bool b)∧Up w w'
theorem c_IndexFuncString (kf:FuncId) (cap:Array Value) (eg:∀args w,(callFunc kf args).run Tryz.prog w=.ok (.enter kf args) w) (p:ByteArray→Bool) (A:Option Addr) (c:Nat) (xs:List ByteArray) (w:World) (h:SRW shS w A c xs)
   (hf:∀(W:World) (x:ByteArray),x∈xs→Up w W→Calls Tryz.prog kf (#[.string x]++cap) W (BoolP (p x) W)) :
   Calls Tryz.prog 155 #[.slice A xs.length c,.func (.func kf) #[] cap] w (IdxP p xs w):=by
 have hlen:=h.len_le
 have HF:=Lib.hid hf;clear hf
 go_enter Tryz.func155,Tryz.ntmps155
 go_wp2_with fail
 go_loopw [8] (fun i wr=>∃k:Nat,k≤xs.length∧i=.int .i64 k∧Hid ((xs.take k).any p=false)∧Up w wr) (fun i _=>xs.length - (intOf i).toNat)
 case atStart=>exact ⟨0,Nat.zero_le _,rfl,rfl,Up.refl _⟩
 case round =>
   obtain ⟨k,hk,rfl,HT,hu⟩:=hrel
   by_cases hlt:k<xs.length
   · obtain ⟨g,off,rfl,_,_,hc,hb⟩:=(h.up good_S hu).at_S hlt
     go_wp2_with fail
     refine (HF.out wr xs[k] (List.getElem_mem hlt) hu).mono ?_
     rintro e w1 ⟨rfl,u1⟩
     cases hp:p xs[k]
     · have HN:Hid ((xs.take (k+1)).any p=false):=by unfold Hid;rw [any_take_succ p xs k hlt,hp,HT.out];rfl
       clear hp
       go_wp2_with fail
       go_roundw
       case rel=>exact ⟨k+1,by omega,by go_num,HN,hu.trans u1⟩
       case measure=>simp [intOf];omega
     · have HP:=Lib.hid hp;clear hp
       go_wp2_with fail
       go_ret
       exact ⟨_,rfl,hu.trans u1,.inr ⟨k,rfl,hlt,HP.out,HT.out⟩⟩
   · have HE:=Lib.hid (any_all p xs k HT.out (by omega))
     go_wp2_with fail
     go_ret
     exact ⟨-1,rfl,hu,.inl ⟨rfl,HE.out⟩⟩
theorem c_ContainsFuncString (kf:FuncId) (cap:Array Value) (eg:∀args w,(callFunc kf args).run Tryz.prog w=.ok (.enter kf args) w) (p:ByteArray→Bool) (A:Option Addr) (c:Nat) (xs:List ByteArray) (w:World) (h:SRW shS w A c xs)
   (hf:∀(W:World) (x:ByteArray),x∈xs→Up w W→Calls Tryz.prog kf (#[.string x]++cap) W (BoolP (p x) W)) :
   Calls Tryz.prog 135 #[.slice A xs.length c,.func (.func kf) #[] cap] w (BoolP (xs.any p) w):=by
 have HF:=Lib.hid hf;clear hf
 have HG:=Lib.hid eg;clear eg
 go_enter Tryz.func135,Tryz.ntmps135
 go_wp2_with fail
 refine (c_IndexFuncString kf cap HG.out p A c xs w h HF.out).mono ?_
 rintro e w1 ⟨n,rfl,u1,hn⟩
 rcases hn with ⟨rfl,hn⟩ | ⟨i,rfl,hi,hp,_⟩
 · have HN:=Lib.hid hn;clear hn
   go_wp2_with fail
   go_ret
   exact ⟨by rw [HN.out];rfl,u1⟩
 · have HN:=Lib.hid (any_at p xs i hi hp);clear hp
   have h0:(0:Int)≤i:=by omega
   go_wp2_with fail
   go_ret
   exact ⟨by rw [HN.out];simp,u1⟩
theorem c_IndexFuncInt64 (kf:FuncId) (cap:Array Value) (eg:∀args w,(callFunc kf args).run Tryz.prog w=.ok (.enter kf args) w) (p:Int→Bool) (A:Option Addr) (c:Nat) (xs:List Int) (w:World) (h:SRW shI w A c xs)
   (hf:∀(W:World) (x:Int),x∈xs→Up w W→I64 x→Calls Tryz.prog kf (#[.int .i64 x]++cap) W (BoolP (p x) W)) :
   Calls Tryz.prog 154 #[.slice A xs.length c,.func (.func kf) #[] cap] w (IdxP p xs w):=by
 have hlen:=h.len_le
 have HF:=Lib.hid hf;clear hf
 go_enter Tryz.func154,Tryz.ntmps154
 go_wp2_with fail
 go_loopw [8] (fun i wr=>∃k:Nat,k≤xs.length∧i=.int .i64 k∧Hid ((xs.take k).any p=false)∧Up w wr) (fun i _=>xs.length - (intOf i).toNat)
 case atStart=>exact ⟨0,Nat.zero_le _,rfl,rfl,Up.refl _⟩
 case round =>
   obtain ⟨k,hk,rfl,HT,hu⟩:=hrel
   by_cases hlt:k<xs.length
   · obtain ⟨g,off,rfl,_,_,hc,hb⟩:=(h.up good_I hu).at_I hlt
     go_wp2_with fail
     refine (HF.out wr xs[k] (List.getElem_mem hlt) hu hb).mono ?_
     rintro e w1 ⟨rfl,u1⟩
     cases hp:p xs[k]
     · have HN:Hid ((xs.take (k+1)).any p=false):=by unfold Hid;rw [any_take_succ p xs k hlt,hp,HT.out];rfl
       clear hp
       go_wp2_with fail
       go_roundw
       case rel=>exact ⟨k+1,by omega,by go_num,HN,hu.trans u1⟩
       case measure=>simp [intOf];omega
     · have HP:=Lib.hid hp;clear hp
       go_wp2_with fail
       go_ret
       exact ⟨_,rfl,hu.trans u1,.inr ⟨k,rfl,hlt,HP.out,HT.out⟩⟩
   · have HE:=Lib.hid (any_all p xs k HT.out (by omega))
     go_wp2_with fail
     go_ret
     exact ⟨-1,rfl,hu,.inl ⟨rfl,HE.out⟩⟩
theorem c_ContainsFuncInt64 (kf:FuncId) (cap:Array Value) (eg:∀args w,(callFunc kf args).run Tryz.prog w=.ok (.enter kf args) w) (p:Int→Bool) (A:Option Addr) (c:Nat) (xs:List Int) (w:World) (h:SRW shI w A c xs)
   (hf:∀(W:World) (x:Int),x∈xs→Up w W→I64 x→Calls Tryz.prog kf (#[.int .i64 x]++cap) W (BoolP (p x) W)) :
   Calls Tryz.prog 133 #[.slice A xs.length c,.func (.func kf) #[] cap] w (BoolP (xs.any p) w):=by
 have HF:=Lib.hid hf;clear hf
 have HG:=Lib.hid eg;clear eg
 go_enter Tryz.func133,Tryz.ntmps133
 go_wp2_with fail
 refine (c_IndexFuncInt64 kf cap HG.out p A c xs w h HF.out).mono ?_
 rintro e w1 ⟨n,rfl,u1,hn⟩
 rcases hn with ⟨rfl,hn⟩ | ⟨i,rfl,hi,hp,_⟩
 · have HN:=Lib.hid hn;clear hn
   go_wp2_with fail
   go_ret
   exact ⟨by rw [HN.out];rfl,u1⟩
 · have HN:=Lib.hid (any_at p xs i hi hp);clear hp
   have h0:(0:Int)≤i:=by omega
   go_wp2_with fail
   go_ret
   exact ⟨by rw [HN.out];simp,u1⟩
theorem c_IndexFuncPut (kf:FuncId) (cap:Array Value) (eg:∀args w,(callFunc kf args).run Tryz.prog w=.ok (.enter kf args) w) (p:TPut→Bool) (A:Option Addr) (c:Nat) (xs:List TPut) (w:World) (h:SRW shPut w A c xs)
   (hf:∀(W:World) (v:Value) (x:TPut),x∈xs→Up w W→AV shPut W v x→Calls Tryz.prog kf (#[v]++cap) W (BoolP (p x) W)) :
   Calls Tryz.prog 156 #[.slice A xs.length c,.func (.func kf) #[] cap] w (IdxP p xs w):=by
 have hlen:=h.len_le
 have HF:=Lib.hid hf;clear hf
 go_enter Tryz.func156,Tryz.ntmps156
 go_wp2_with fail
 go_loopw [8] (fun i wr=>∃k:Nat,k≤xs.length∧i=.int .i64 k∧Hid ((xs.take k).any p=false)∧Up w wr) (fun i _=>xs.length - (intOf i).toNat)
 case atStart=>exact ⟨0,Nat.zero_le _,rfl,rfl,Up.refl _⟩
 case round =>
   obtain ⟨k,hk,rfl,HT,hu⟩:=hrel
   by_cases hlt:k<xs.length
   · obtain ⟨g,off,rfl,_,_,hc0,hc1,b0,b1,_⟩:=atPut (h.up good_Put hu) hlt
     go_wp2_with fail
     refine (HF.out wr _ xs[k] (List.getElem_mem hlt) hu ⟨_,rfl,mkPut (x:=xs[k]) b0 b1⟩).mono ?_
     rintro e w1 ⟨rfl,u1⟩
     cases hp:p xs[k]
     · have HN:Hid ((xs.take (k+1)).any p=false):=by unfold Hid;rw [any_take_succ p xs k hlt,hp,HT.out];rfl
       clear hp
       go_wp2_with fail
       go_roundw
       case rel=>exact ⟨k+1,by omega,by go_num,HN,hu.trans u1⟩
       case measure=>simp [intOf];omega
     · have HP:=Lib.hid hp;clear hp
       go_wp2_with fail
       go_ret
       exact ⟨_,rfl,hu.trans u1,.inr ⟨k,rfl,hlt,HP.out,HT.out⟩⟩
   · have HE:=Lib.hid (any_all p xs k HT.out (by omega))
     go_wp2_with fail
     go_ret
     exact ⟨-1,rfl,hu,.inl ⟨rfl,HE.out⟩⟩
theorem c_ContainsFuncPut (kf:FuncId) (cap:Array Value) (eg:∀args w,(callFunc kf args).run Tryz.prog w=.ok (.enter kf args) w) (p:TPut→Bool) (A:Option Addr) (c:Nat) (xs:List TPut) (w:World) (h:SRW shPut w A c xs)
   (hf:∀(W:World) (v:Value) (x:TPut),x∈xs→Up w W→AV shPut W v x→Calls Tryz.prog kf (#[v]++cap) W (BoolP (p x) W)) :
   Calls Tryz.prog 138 #[.slice A xs.length c,.func (.func kf) #[] cap] w (BoolP (xs.any p) w):=by
 have HF:=Lib.hid hf;clear hf
 have HG:=Lib.hid eg;clear eg
 go_enter Tryz.func138,Tryz.ntmps138
 go_wp2_with fail
 refine (c_IndexFuncPut kf cap HG.out p A c xs w h HF.out).mono ?_
 rintro e w1 ⟨n,rfl,u1,hn⟩
 rcases hn with ⟨rfl,hn⟩ | ⟨i,rfl,hi,hp,_⟩
 · have HN:=Lib.hid hn;clear hn
   go_wp2_with fail
   go_ret
   exact ⟨by rw [HN.out];rfl,u1⟩
 · have HN:=Lib.hid (any_at p xs i hi hp);clear hp
   have h0:(0:Int)≤i:=by omega
   go_wp2_with fail
   go_ret
   exact ⟨by rw [HN.out];simp,u1⟩
theorem c_IndexFuncSeat (kf:FuncId) (cap:Array Value) (eg:∀args w,(callFunc kf args).run Tryz.prog w=.ok (.enter kf args) w) (p:TSeat→Bool) (A:Option Addr) (c:Nat) (xs:List TSeat) (w:World) (h:SRW shSeat w A c xs)
   (hf:∀(W:World) (v:Value) (x:TSeat),x∈xs→Up w W→AV shSeat W v x→Calls Tryz.prog kf (#[v]++cap) W (BoolP (p x) W)) :
   Calls Tryz.prog 141 #[.slice A xs.length c,.func (.func kf) #[] cap] w (IdxP p xs w):=by
 have hlen:=h.len_le
 have HF:=Lib.hid hf;clear hf
 go_enter Tryz.func141,Tryz.ntmps141
 go_wp2_with fail
 go_loopw [8] (fun i wr=>∃k:Nat,k≤xs.length∧i=.int .i64 k∧Hid ((xs.take k).any p=false)∧Up w wr) (fun i _=>xs.length - (intOf i).toNat)
 case atStart=>exact ⟨0,Nat.zero_le _,rfl,rfl,Up.refl _⟩
 case round =>
   obtain ⟨k,hk,rfl,HT,hu⟩:=hrel
   by_cases hlt:k<xs.length
   · obtain ⟨g,off,rfl,_,_,hc0,hc1,b0,b1,_⟩:=atSeat (h.up good_Seat hu) hlt
     go_wp2_with fail
     refine (HF.out wr _ xs[k] (List.getElem_mem hlt) hu ⟨_,rfl,mkSeat (x:=xs[k]) b0 b1⟩).mono ?_
     rintro e w1 ⟨rfl,u1⟩
     cases hp:p xs[k]
     · have HN:Hid ((xs.take (k+1)).any p=false):=by unfold Hid;rw [any_take_succ p xs k hlt,hp,HT.out];rfl
       clear hp
       go_wp2_with fail
       go_roundw
       case rel=>exact ⟨k+1,by omega,by go_num,HN,hu.trans u1⟩
       case measure=>simp [intOf];omega
     · have HP:=Lib.hid hp;clear hp
       go_wp2_with fail
       go_ret
       exact ⟨_,rfl,hu.trans u1,.inr ⟨k,rfl,hlt,HP.out,HT.out⟩⟩
   · have HE:=Lib.hid (any_all p xs k HT.out (by omega))
     go_wp2_with fail
     go_ret
     exact ⟨-1,rfl,hu,.inl ⟨rfl,HE.out⟩⟩
theorem c_ContainsFuncSeat (kf:FuncId) (cap:Array Value) (eg:∀args w,(callFunc kf args).run Tryz.prog w=.ok (.enter kf args) w) (p:TSeat→Bool) (A:Option Addr) (c:Nat) (xs:List TSeat) (w:World) (h:SRW shSeat w A c xs)
   (hf:∀(W:World) (v:Value) (x:TSeat),x∈xs→Up w W→AV shSeat W v x→Calls Tryz.prog kf (#[v]++cap) W (BoolP (p x) W)) :
   Calls Tryz.prog 99 #[.slice A xs.length c,.func (.func kf) #[] cap] w (BoolP (xs.any p) w):=by
 have HF:=Lib.hid hf;clear hf
 have HG:=Lib.hid eg;clear eg
 go_enter Tryz.func99,Tryz.ntmps99
 go_wp2_with fail
 refine (c_IndexFuncSeat kf cap HG.out p A c xs w h HF.out).mono ?_
 rintro e w1 ⟨n,rfl,u1,hn⟩
 rcases hn with ⟨rfl,hn⟩ | ⟨i,rfl,hi,hp,_⟩
 · have HN:=Lib.hid hn;clear hn
   go_wp2_with fail
   go_ret
   exact ⟨by rw [HN.out];rfl,u1⟩
 · have HN:=Lib.hid (any_at p xs i hi hp);clear hp
   have h0:(0:Int)≤i:=by omega
   go_wp2_with fail
   go_ret
   exact ⟨by rw [HN.out];simp,u1⟩
end Go.Proofs.YthdnicfbnihoaaaGreatDoor
namespace Go.Proofs.YthdnicfbnihoaaaGreatDoor
open Go.RowKit
set_option linter.unusedVariables false
set_option linter.unusedSimpArgs false
abbrev Small (xs:List ByteArray):Prop:=∀i (h:i<xs.length),xs[i].size≤1048576
theorem c_isLetter (c:UInt8) (w:World):Calls Tryz.prog 178 #[.int .u8 (c.toNat:Int)] w fun e w'=>e=.returned (.bool (isLetter c))∧w=w':=by
 unfold isLetter
 by_cases h1:97≤c.toNat
 · by_cases h2:c.toNat≤122
   · have h1':(97:Int)≤(c.toNat:Int):=by omega
     have h2':(c.toNat:Int)≤122:=by omega
     go_enter Tryz.func178,Tryz.ntmps178
     go_wp2
     go_ret
     exact ⟨by simp [h1,h2],rfl⟩
   · have h1':(97:Int)≤(c.toNat:Int):=by omega
     have h2':¬ (c.toNat:Int)≤122:=by omega
     have h3:¬ (c.toNat:Int)≤90:=by omega
     have h3':¬ c.toNat≤90:=by omega
     go_enter Tryz.func178,Tryz.ntmps178
     go_wp2
     go_ret
     exact ⟨by simp [h1,h2,h3'],rfl⟩
 · have h1':¬ (97:Int)≤(c.toNat:Int):=by omega
   by_cases h3:65≤c.toNat
   · by_cases h4:c.toNat≤90
     · have h3':(65:Int)≤(c.toNat:Int):=by omega
       have h4':(c.toNat:Int)≤90:=by omega
       go_enter Tryz.func178,Tryz.ntmps178
       go_wp2
       go_ret
       exact ⟨by simp [h1,h3,h4],rfl⟩
     · have h3':(65:Int)≤(c.toNat:Int):=by omega
       have h4':¬ (c.toNat:Int)≤90:=by omega
       go_enter Tryz.func178,Tryz.ntmps178
       go_wp2
       go_ret
       exact ⟨by simp [h1,h3,h4],rfl⟩
   · have h3':¬ (65:Int)≤(c.toNat:Int):=by omega
     go_enter Tryz.func178,Tryz.ntmps178
     go_wp2
     go_ret
     exact ⟨by simp [h1,h3],rfl⟩
theorem c_isDigit (c:UInt8) (w:World):Calls Tryz.prog 179 #[.int .u8 (c.toNat:Int)] w fun e w'=>e=.returned (.bool (isDig c))∧w=w':=by
 unfold isDig
 by_cases h1:48≤c.toNat
 · have h1':(48:Int)≤(c.toNat:Int):=by omega
   by_cases h2:c.toNat≤57
   · have h2':(c.toNat:Int)≤57:=by omega
     go_enter Tryz.func179,Tryz.ntmps179
     go_wp2
     go_ret
     exact ⟨by simp [h1,h2],rfl⟩
   · have h2':¬ (c.toNat:Int)≤57:=by omega
     go_enter Tryz.func179,Tryz.ntmps179
     go_wp2
     go_ret
     exact ⟨by simp [h1,h2],rfl⟩
 · have h1':¬ (48:Int)≤(c.toNat:Int):=by omega
   go_enter Tryz.func179,Tryz.ntmps179
   go_wp2
   go_ret
   exact ⟨by simp [h1],rfl⟩
theorem c_isLetterAt (c:UInt8) (z:Int) (w:World) (hz:z=(c.toNat:Int)):Calls Tryz.prog 178 #[.int .u8 z] w fun e w'=>e=.returned (.bool (isLetter c))∧w=w':=by
 subst hz
 exact c_isLetter c w
theorem c_isDigitAt (c:UInt8) (z:Int) (w:World) (hz:z=(c.toNat:Int)):Calls Tryz.prog 179 #[.int .u8 z] w fun e w'=>e=.returned (.bool (isDig c))∧w=w':=by
 subst hz
 exact c_isDigit c w
theorem c_SubOk (s:ByteArray) (w:World):Calls Tryz.prog 190 #[.string s] w fun e w'=>e=.returned (.bool (subB s))∧w=w':=by
 unfold subB
 by_cases h1:1≤s.size
 · go_enter Tryz.func190,Tryz.ntmps190
   go_wp2
   go_ret
   exact ⟨by simp [h1];omega,rfl⟩
 · go_enter Tryz.func190,Tryz.ntmps190
   go_wp2
   go_ret
   exact ⟨by simp [h1],rfl⟩
theorem c_SubsOk1 (s:ByteArray) (w:World):Calls Tryz.prog 189 #[.string s] w (BoolP (!subB s) w):=by
 go_enter Tryz.func189,Tryz.ntmps189
 go_wp2_with fail
 refine (c_SubOk s _).mono ?_
 rintro e w1 ⟨rfl,rfl⟩
 go_wp2_with fail
 go_ret
 exact ⟨rfl,Up.refl _⟩
theorem any_not_subs (xs:List ByteArray) (h:xs.length≤4):subsB xs=!(xs.any fun s=>!subB s):=by
 cases e:xs.any (fun s=>!subB s)
 · refine subsB_t ⟨h,fun i hi=>?_⟩
   rw [List.any_eq_false] at e
   have:=e xs[i] (List.getElem_mem hi)
   simpa using this
 · rw [List.any_eq_true] at e
   obtain ⟨x,hx,hp⟩:=e
   obtain ⟨i,hi,rfl⟩:=List.getElem_of_mem hx
   refine subsB_f fun hh=>?_
   have:=hh.2 i hi
   rw [this] at hp
   simp at hp
theorem c_SubsOk (xs:List ByteArray) (A:Option Addr) (c:Nat) (w:World) (h:SRW shS w A c xs) :
   Calls Tryz.prog 176 #[.slice A xs.length c] w (RetV (.bool (subsB xs)) w):=by
 have hlen:=h.len_le
 have eg:∀args w,(callFunc 189 args).run Tryz.prog w=.ok (.enter 189 args) w:=enters_of Tryz.func189 (by kernel_rfl) rfl
 by_cases h4:xs.length≤4
 · have HE:=Lib.hid (any_not_subs xs h4)
   have EG:=Lib.hid eg
   clear eg
   go_enter Tryz.func176,Tryz.ntmps176
   go_wp2_with fail
   refine (c_ContainsFuncString 189 #[] EG.out (fun s=>!subB s) A c xs _ h (fun W x _ _=>c_SubsOk1 x W)).mono ?_
   rintro e w1 ⟨rfl,u1⟩
   generalize (xs.any fun s=>!subB s)=b at *
   go_wp2_with fail
   go_ret
   exact ⟨by rw [HE.out];first | done | rfl,u1⟩
 · have HE:=Lib.hid (subsB_f (l:=xs) fun hh=>h4 hh.1)
   clear eg
   go_enter Tryz.func176,Tryz.ntmps176
   go_wp2_with fail
   go_ret
   exact ⟨by rw [HE.out];first | done | rfl,Up.refl _⟩
theorem c_NameOk (s:ByteArray) (w:World) (hs:s.size≤maxLen):Calls Tryz.prog 167 #[.string s] w (RetV (.bool (nameB s)) w):=by
 unfold maxLen at hs
 go_enter Tryz.func167,Tryz.ntmps167
 go_wp2_with fail
 go_loop [3] (fun i=>∃k:Nat,k≤s.size∧i=.int .i64 k∧Hid (∀i (h:i<s.size),i<k→chOk i s[i]=true)) (fun i=>s.size - (intOf i).toNat)
 case atStart=>exact ⟨0,Nat.zero_le _,rfl,fun i h hi=>absurd hi (by omega)⟩
 case round =>
   obtain ⟨k,hk,rfl,HA⟩:=hrel
   by_cases hlt:k<s.size
   · cases hk2:chOk k s[k]
     · have H:=Lib.hid (nameB_f (s:=s) fun h=>by have:=h.2.2 k hlt;rw [hk2] at this;cases this)
       by_cases hk0:k=0
       · subst hk0
         have hk3:isLetter s[0]=false∧s[0]≠37:=by simpa [chOk] using hk2
         have b37:=u8_nb 37 rfl hk3.2
         have n37:=u8_nn 37 rfl hk3.2
         have hk4:=hk3.1
         clear hk2 hk3
         go_wp2_with (first | (go_at_call 178;refine (c_isLetterAt s[0] _ _ rfl).mono ?_;rintro e w1 ⟨rfl,rfl⟩;rw [hk4]))
         go_ret
         exact retB (Lib.hid H.out.symm) (Up.refl _)
       · have hk3:isLetter s[k]=false∧isDig s[k]=false:=by simpa [chOk,hk0] using hk2
         obtain ⟨hk4,hk5⟩:=hk3
         have hki:¬ (k:Int)=0:=by omega
         have hkb:((k:Int) == 0)=false:=by simpa using hk0
         clear hk2
         go_wp2_with (first | (go_at_call 178;refine (c_isLetterAt s[k] _ _ rfl).mono ?_;rintro e w1 ⟨rfl,rfl⟩;rw [hk4]) | (go_at_call 179;refine (c_isDigitAt s[k] _ _ rfl).mono ?_;rintro e w1 ⟨rfl,rfl⟩;rw [hk5]))
         go_ret
         exact retB (Lib.hid H.out.symm) (Up.refl _)
     · have HN:Hid (∀i (h:i<s.size),i<k+1→chOk i s[i]=true):=fun i h hi=>by
         by_cases e:i=k
         · subst e;exact hk2
         · exact HA.out i h (by omega)
       cases hL:isLetter s[k]
       · by_cases hk0:k=0
         · subst hk0
           have h37:s[0]=37:=by simpa [chOk,hL] using hk2
           have e37:=u8_yb 37 rfl h37
           have HZ:=Lib.hid (show (37:Int)=(s[0].toNat:Int) from e37.symm)
           clear hk2 h37
           go_wp2_with (first | (go_at_call 178;refine (c_isLetterAt s[0] _ _ (by first | rfl | exact HZ.out)).mono ?_;rintro e w1 ⟨rfl,rfl⟩;rw [hL]))
           go_round
           case rel=>exact ⟨1,by omega,by first | rfl | go_num,HN⟩
           case measure=>simp [intOf];omega
         · have hd:isDig s[k]=true:=by simpa [chOk,hk0,hL] using hk2
           have hki:¬ (k:Int)=0:=by omega
           have hkb:((k:Int) == 0)=false:=by simpa using hk0
           clear hk2
           go_wp2_with (first | (go_at_call 178;refine (c_isLetterAt s[k] _ _ rfl).mono ?_;rintro e w1 ⟨rfl,rfl⟩;rw [hL]) | (go_at_call 179;refine (c_isDigitAt s[k] _ _ rfl).mono ?_;rintro e w1 ⟨rfl,rfl⟩;rw [hd]))
           go_round
           case rel=>exact ⟨k+1,by omega,by go_num,HN⟩
           case measure=>simp [intOf];omega
       · clear hk2
         go_wp2_with (first | (go_at_call 178;refine (c_isLetterAt s[k] _ _ rfl).mono ?_;rintro e w1 ⟨rfl,rfl⟩;rw [hL]))
         go_round
         case rel=>exact ⟨k+1,by omega,by go_num,HN⟩
         case measure=>simp [intOf];omega
   · obtain rfl:k=s.size:=by omega
     by_cases h1:1≤s.size
     · by_cases h2:s.size≤8
       · have H:=Lib.hid (nameB_t (s:=s) ⟨h1,h2,fun i h=>HA.out i h h⟩)
         go_wp2_with fail
         go_ret
         exact ⟨by rw [H.out];first | done | rfl | (simp;omega),Up.refl _⟩
       · have H:=Lib.hid (nameB_f (s:=s) fun h=>h2 h.2.1)
         go_wp2_with fail
         go_ret
         exact ⟨by rw [H.out];first | done | rfl | (simp;omega),Up.refl _⟩
     · have H:=Lib.hid (nameB_f (s:=s) fun h=>h1 h.1)
       go_wp2_with fail
       go_ret
       exact ⟨by rw [H.out];first | done | rfl | (simp;omega),Up.refl _⟩
theorem c_PutSubs (xs:List ByteArray) (A:Option Addr) (c:Nat) (w:World) (h:SRW shS w A c xs) (htab:Tab w) (hm:MaxL w) :
   Calls Tryz.prog 177 #[.slice A xs.length c] w (RetV (.string (bs (putSubsL xs))) w):=by
 cases hb:subsB xs
 · have HE:Hid (bs (putSubsL xs)=⟨#[]⟩):=by unfold Hid putSubsL;rw [if_neg (by rw [hb];simp)];rfl
   go_enter Tryz.func177,Tryz.ntmps177
   go_wp2_with fail
   refine (c_SubsOk xs A c _ h).mono ?_
   rintro e w1 ⟨rfl,u1⟩
   rw [hb]
   go_wp2_with fail
   go_ret
   exact ⟨by rw [HE.out];first | done | rfl,u1⟩
 · have HE:Hid (bs (putSubsL xs)=bs (xs.flatMap subKeyL)):=by unfold Hid putSubsL;rw [if_pos hb]
   have HP:=Lib.hid (subsP_of hb)
   have hlen:=h.len_le
   go_enter Tryz.func177,Tryz.ntmps177
   go_wp2_with fail
   refine (c_SubsOk xs A c _ h).mono ?_
   rintro e w1 ⟨rfl,u1⟩
   rw [hb]
   have h0:0<w1.heap.size:=Nat.lt_of_lt_of_le (by obtain ⟨m,hm⟩:=hm;exact cell_lt hm) u1.size
   have b0:Bld8 w1.heap.size w1.heap.size (([]:List ByteArray).flatMap subKeyL) (w1.alloc (.cells #[.pointer none,.slice none 0 0] 206)):=bld_new _ _ (Bk.new w1 206 #[.pointer none,.slice none 0 0])
   have ku0:Up w1 (w1.alloc (.cells #[.pointer none,.slice none 0 0] 206)):=(Up.refl w1).alloc _
   go_wp2_with fail
   go_loopw [11] (fun i wr=>∃k:Nat,k≤xs.length∧i=.int .i64 k∧Bld8 w1.heap.size w1.heap.size ((xs.take k).flatMap subKeyL) wr∧Below w1.heap.size w1 wr) (fun i _=>xs.length - (intOf i).toNat)
   case atStart=>exact ⟨0,Nat.zero_le _,rfl,b0,ku0⟩
   case round =>
     obtain ⟨k,hk,rfl,br,kr⟩:=hrel
     have hu:Up w wr:=u1.trans kr
     by_cases hlt:k<xs.length
     · obtain ⟨g,off,rfl,_,_,hc,hb1⟩:=(h.up good_S hu).at_S hlt
       have hs:=subB_size (HP.out.2 k hlt)
       have hl1:=keys_len (l:=xs.take k) (fun x hx=>subs_all HP.out x (List.mem_of_mem_take hx))
       have h4:=HP.out.1
       rw [List.length_take] at hl1
       have hsn:(xs.take (k+1)).flatMap subKeyL=(xs.take k).flatMap subKeyL++subKeyL xs[k]:=keys_snoc xs hlt
       have HS:=Lib.hid hsn
       have hl2:((xs.take k).flatMap subKeyL).length≤1099511627776:=by omega
       have hsz:=kr.size
       have ck:=c_putSub w1.heap.size w1.heap.size _ xs[k] wr br (by omega) hl2 hsz h0 (tab_up htab hu) (maxL_up hm hu)
       have CK:=Lib.hid ck
       clear ck hsn hl1 hs h4 hl2
       go_wp2_with fail
       refine CK.out.mono ?_
       rintro e w2 ⟨rfl,b2,k2,o2⟩
       go_wp2_with fail
       go_roundw
       case rel=>exact ⟨k+1,by omega,by go_num,by rw [HS.out];exact b2,kr.trans k2⟩
       case measure=>simp [intOf];omega
     · have ht:xs.take k=xs:=List.take_of_length_le (by omega)
       rw [ht] at br
       clear ht
       have hsz:=kr.size
       have cs:=c_BString w1.heap.size w1.heap.size _ wr br hsz
       have CS:=Lib.hid cs
       clear cs
       go_wp2_with fail
       refine CS.out.mono ?_
       rintro e w2 ⟨rfl,k2⟩
       go_wp2_with fail
       go_ret
       exact ⟨by rw [HE.out];first | done | rfl,Up.below hu k2 u1.size⟩
end Go.Proofs.YthdnicfbnihoaaaGreatDoor
