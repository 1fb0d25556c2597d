/-
 Parts of the proof.
-/
import Derived.Test.YtojmcmghmnfjeaaGreatDoorM1H
set_option maxHeartbeats 8000000
set_option maxRecDepth 100000
namespace Go.Proofs.YtojmcmghmnfjeaaGreatDoor
open Go.RowKit
set_option linter.unusedVariables false
set_option linter.unusedSimpArgs false
def notKid (n:Int):Bool:=!inB n 1 64
def longB (l:List ByteArray):Bool:=l.any fun s=>decide (64<s.size)
def leafB (x:TPage):Bool:=decide (x.2.1.length≤6)&&decide (x.2.2.1.length=x.2.1.length)&&!longB x.2.2.1&&decide (x.2.2.2.length=0)
def forkB (x:TPage):Bool:=inB (x.2.2.2.length:Int) 2 6&&decide ((x.2.1.length:Int)=(x.2.2.2.length:Int)-1)&&decide (x.2.2.1.length=0)&&!x.2.2.2.any notKid
def pageB (x:TPage):Bool:=keysB x.2.1&&(if x.1=true then leafB x else forkB x)
theorem page_nokeys {x:TPage} (h:keysB x.2.1=false):pageB x=false:=by unfold pageB;rw [h];rfl
theorem page_leaf {x:TPage} (h:keysB x.2.1=true) (hl:x.1=true):pageB x=leafB x:=by unfold pageB;rw [h,if_pos hl];rfl
theorem page_fork {x:TPage} (h:keysB x.2.1=true) (hl:x.1=false):pageB x=forkB x:=by unfold pageB;rw [h,if_neg (by rw [hl];decide)];rfl
theorem c_count64 (xs:List Int) (A:Option Addr) (c:Nat) (w:World) (h:xs.length≤9223372036854775807):Calls Tryz.prog 73 #[.slice A xs.length c] w fun e w'=>e=.returned (.int .i64 xs.length)∧w=w':=by
 go_enter Tryz.func73,Tryz.ntmps73
 go_wp2
 go_ret
 exact ⟨by first | rfl | simp,rfl⟩
theorem c_PageOk1 (n:Int) (w:World):Calls Tryz.prog 75 #[.int .i64 n] w (BoolP (notKid n) w):=by
 unfold notKid
 go_enter Tryz.func75,Tryz.ntmps75
 go_wp2_with fail
 refine (within_any _ _ _ _).mono ?_
 rintro e w' ⟨rfl,rfl⟩
 go_wp2_with fail
 go_ret
 exact ⟨rfl,Up.refl _⟩
theorem eg_PageOk1:∀args w,(callFunc 75 args).run Tryz.prog w=.ok (.enter 75 args) w:=enters_of Tryz.func75 (by kernel_rfl) rfl
theorem c_PageOk (v:Value) (x:TPage) (w:World) (h:AV shPage w v x) (hz:∀s∈x.2.1,s.size≤1048576) (htab:Tab w) (hm:MaxL w):Calls Tryz.prog 42 #[v] w (RetV (.bool (pageB x)) w):=by
 obtain ⟨cs,rfl,h⟩:=h
 obtain ⟨A1,c1,A2,c2,A3,c3,rfl,b1,b2,b3⟩:=openPage h
 clear h
 have l1:=b1.len_le
 have l2:=b2.len_le
 have l3:=b3.len_le
 have kA:=Bk.new w 58 #[.bool x.1,.slice A1 x.2.1.length c1,.slice A2 x.2.2.1.length c2,.slice A3 x.2.2.2.length c3]
 have uA:Up w (w.alloc (.cells #[.bool x.1,.slice A1 x.2.1.length c1,.slice A2 x.2.2.1.length c2,.slice A3 x.2.2.2.length c3] 58)):=(Up.refl w).alloc _
 have HK:=Hd (fun (hh:keysB x.2.1=false)=>page_nokeys hh)
 have HL:=Hd (fun (hh:keysB x.2.1=true) (hl:x.1=true)=>page_leaf hh hl)
 have HF:=Hd (fun (hh:keysB x.2.1=true) (hl:x.1=false)=>page_fork hh hl)
 generalize pageB x=R at *
 have g0:(w.alloc (.cells #[.bool x.1,.slice A1 x.2.1.length c1,.slice A2 x.2.2.1.length c2,.slice A3 x.2.2.2.length c3] 58)).cell? ⟨w.heap.size,0,none⟩=some (.bool x.1):=kA.cell 0
 have g1:(w.alloc (.cells #[.bool x.1,.slice A1 x.2.1.length c1,.slice A2 x.2.2.1.length c2,.slice A3 x.2.2.2.length c3] 58)).cell? ⟨w.heap.size,1,none⟩=some (.slice A1 x.2.1.length c1):=kA.cell 1
 have g2:(w.alloc (.cells #[.bool x.1,.slice A1 x.2.1.length c1,.slice A2 x.2.2.1.length c2,.slice A3 x.2.2.2.length c3] 58)).cell? ⟨w.heap.size,2,none⟩=some (.slice A2 x.2.2.1.length c2):=kA.cell 2
 have g3:(w.alloc (.cells #[.bool x.1,.slice A1 x.2.1.length c1,.slice A2 x.2.2.1.length c2,.slice A3 x.2.2.2.length c3] 58)).cell? ⟨w.heap.size,3,none⟩=some (.slice A3 x.2.2.2.length c3):=kA.cell 3
 go_enter Tryz.func42,Tryz.ntmps42
 go_wp2_with fail
 refine (c_keysOk x.2.1 A1 c1 _ (b1.up good_S uA) hz (tab_up htab uA) (maxL_up hm uA)).mono ?_
 rintro e w1 ⟨rfl,u1⟩
 have u01:=uA.trans u1
 have k1:=kA.up u1
 clear g0 g1 g2 g3
 cases hk:keysB x.2.1
 ·have HR:=Hd (HK.out hk)
  clear HK HL HF
  go_wp2_with fail
  refine bodyPost_ret (v:=.bool false) (by simp [results,Tryz.results42,go_sem]) rfl ?_
  exact ⟨by rw [HR.out],u01⟩
 ·cases hl:x.1
  ·have g0:w1.cell? ⟨w.heap.size,0,none⟩=some (.bool false):=hl▸k1.cell 0
   have g1:w1.cell? ⟨w.heap.size,1,none⟩=some (.slice A1 x.2.1.length c1):=k1.cell 1
   have g2:w1.cell? ⟨w.heap.size,2,none⟩=some (.slice A2 x.2.2.1.length c2):=k1.cell 2
   have g3:w1.cell? ⟨w.heap.size,3,none⟩=some (.slice A3 x.2.2.2.length c3):=k1.cell 3
   have hw3:IntKind.i64.wrap ((x.2.2.2.length:Int)-1)=(x.2.2.2.length:Int)-1:=IntWalk.i64_in _ (by omega)
   cases q1:inB (x.2.2.2.length:Int) 2 6
   ·have HR:=Hd (show R=false by rw [HF.out hk hl,forkB,q1];rfl)
    clear HK HL HF
    go_wp2_with (first | (go_at_call 73;refine (c_count64 _ _ _ _ l3).mono ?_;rintro e w' ⟨rfl,rfl⟩) | (go_at_call 41;refine (within_any _ _ _ _).mono ?_;rintro e w' ⟨rfl,rfl⟩;rw [q1]))
    refine bodyPost_ret (v:=.bool false) (by simp [results,Tryz.results42,go_sem]) rfl ?_
    exact ⟨by rw [HR.out],u01⟩
   ·by_cases a2:(x.2.1.length:Int)=(x.2.2.2.length:Int)-1
    ·have e2:((x.2.1.length:Int) != ((x.2.2.2.length:Int)-1))=false:=bne_eq_false_iff_eq.2 (by omega)
     have e2p:(x.2.1.length:Int)=((x.2.2.2.length:Int)-1):=by omega
     by_cases a3:x.2.2.1.length=0
     ·have e3:((x.2.2.1.length:Int) != 0)=false:=bne_eq_false_iff_eq.2 (by omega)
      have e3p:(x.2.2.1.length:Int)=0:=by omega
      clear HK HL
      go_wp2_with (first | (go_at_call 73;refine (c_count64 _ _ _ _ l3).mono ?_;rintro e w' ⟨rfl,rfl⟩) | (go_at_call 41;refine (within_any _ _ _ _).mono ?_;rintro e w' ⟨rfl,rfl⟩;rw [q1]))
      refine (c_ContainsFuncInt64 75 #[] eg_PageOk1 notKid A3 c3 x.2.2.2 _ (b3.up good_I u01) (fun W n _ _ _=>c_PageOk1 n W)).mono ?_
      rintro e w2 ⟨rfl,u2⟩
      have HR:=Hd (show R=!x.2.2.2.any notKid by rw [HF.out hk hl,forkB,q1,decide_eq_true a2,decide_eq_true a3];simp)
      go_wp2_with fail
      refine bodyPost_ret (v:=.bool (!x.2.2.2.any notKid)) (by simp [results,Tryz.results42,go_sem]) rfl ?_
      exact ⟨by rw [HR.out],u01.trans u2⟩
     ·have e3:((x.2.2.1.length:Int) != 0)=true:=bne_iff_ne.2 (by omega)
      have e3p:¬(x.2.2.1.length:Int)=0:=by omega
      have HR:=Hd (show R=false by rw [HF.out hk hl,forkB,decide_eq_false a3];simp)
      clear HK HL HF
      go_wp2_with (first | (go_at_call 73;refine (c_count64 _ _ _ _ l3).mono ?_;rintro e w' ⟨rfl,rfl⟩) | (go_at_call 41;refine (within_any _ _ _ _).mono ?_;rintro e w' ⟨rfl,rfl⟩;rw [q1]))
      refine bodyPost_ret (v:=.bool false) (by simp [results,Tryz.results42,go_sem]) rfl ?_
      exact ⟨by rw [HR.out],u01⟩
    ·have e2:((x.2.1.length:Int) != ((x.2.2.2.length:Int)-1))=true:=bne_iff_ne.2 (by omega)
     have e2p:¬(x.2.1.length:Int)=((x.2.2.2.length:Int)-1):=by omega
     have HR:=Hd (show R=false by rw [HF.out hk hl,forkB,decide_eq_false a2];simp)
     clear HK HL HF
     go_wp2_with (first | (go_at_call 73;refine (c_count64 _ _ _ _ l3).mono ?_;rintro e w' ⟨rfl,rfl⟩) | (go_at_call 41;refine (within_any _ _ _ _).mono ?_;rintro e w' ⟨rfl,rfl⟩;rw [q1]))
     refine bodyPost_ret (v:=.bool false) (by simp [results,Tryz.results42,go_sem]) rfl ?_
     exact ⟨by rw [HR.out],u01⟩
  ·have g0:w1.cell? ⟨w.heap.size,0,none⟩=some (.bool true):=hl▸k1.cell 0
   have g1:w1.cell? ⟨w.heap.size,1,none⟩=some (.slice A1 x.2.1.length c1):=k1.cell 1
   have g2:w1.cell? ⟨w.heap.size,2,none⟩=some (.slice A2 x.2.2.1.length c2):=k1.cell 2
   have g3:w1.cell? ⟨w.heap.size,3,none⟩=some (.slice A3 x.2.2.2.length c3):=k1.cell 3
   by_cases a1:x.2.1.length≤6
   ·have i1:(x.2.1.length:Int)≤6:=by omega
    by_cases a2:x.2.2.1.length=x.2.1.length
    ·have e2:((x.2.2.1.length:Int)==(x.2.1.length:Int))=true:=beq_iff_eq.2 (by omega)
     have e2p:(x.2.2.1.length:Int)=(x.2.1.length:Int):=by omega
     have A2h:=Hd a2
     clear a2 e2p
     clear HK HF
     go_wp2_with fail
     refine (c_long x.2.2.1 _ rfl A2 c2 _ (b2.up good_S u01)).mono ?_
     rintro e w2 ⟨rfl,u2⟩
     have k2:=k1.up u2
     have u02:=u01.trans u2
     clear g0 g1 g2 g3
     have g0:w2.cell? ⟨w.heap.size,0,none⟩=some (.bool true):=hl▸k2.cell 0
     have g1:w2.cell? ⟨w.heap.size,1,none⟩=some (.slice A1 x.2.1.length c1):=k2.cell 1
     have g2:w2.cell? ⟨w.heap.size,2,none⟩=some (.slice A2 x.2.2.1.length c2):=k2.cell 2
     have g3:w2.cell? ⟨w.heap.size,3,none⟩=some (.slice A3 x.2.2.2.length c3):=k2.cell 3
     cases hn:longB x.2.2.1
     ·by_cases a3:x.2.2.2.length=0
      ·have HR:=Hd (show R=true by rw [HL.out hk hl,leafB,hn,decide_eq_true a1,decide_eq_true A2h.out,decide_eq_true a3];rfl)
       unfold longB at hn
       rw [hn]
       have e3:((x.2.2.2.length:Int)==(0:Int))=true:=beq_iff_eq.2 (by omega)
       have e3p:(x.2.2.2.length:Int)=(0:Int):=by omega
       clear HL
       go_wp2_with fail
       refine bodyPost_ret (v:=.bool true) (by simp [results,Tryz.results42,go_sem]) rfl ?_
       exact ⟨by rw [HR.out],u02⟩
      ·have HR:=Hd (show R=false by rw [HL.out hk hl,leafB,decide_eq_false a3];simp)
       unfold longB at hn
       rw [hn]
       have e3:((x.2.2.2.length:Int)==(0:Int))=false:=beq_eq_false_iff_ne.2 (by omega)
       have e3p:¬(x.2.2.2.length:Int)=(0:Int):=by omega
       clear HL
       go_wp2_with fail
       refine bodyPost_ret (v:=.bool false) (by simp [results,Tryz.results42,go_sem]) rfl ?_
       exact ⟨by rw [HR.out],u02⟩
     ·have HR:=Hd (show R=false by rw [HL.out hk hl,leafB,hn];simp)
      unfold longB at hn
      rw [hn]
      clear HL
      go_wp2_with fail
      refine bodyPost_ret (v:=.bool false) (by simp [results,Tryz.results42,go_sem]) rfl ?_
      exact ⟨by rw [HR.out],u02⟩
    ·have HR:=Hd (show R=false by rw [HL.out hk hl,leafB,decide_eq_false a2];simp)
     have e2:((x.2.2.1.length:Int)==(x.2.1.length:Int))=false:=beq_eq_false_iff_ne.2 (by omega)
     have e2p:¬(x.2.2.1.length:Int)=(x.2.1.length:Int):=by omega
     clear HK HL HF
     go_wp2_with fail
     refine bodyPost_ret (v:=.bool false) (by simp [results,Tryz.results42,go_sem]) rfl ?_
     exact ⟨by rw [HR.out],u01⟩
   ·have i1:¬(x.2.1.length:Int)≤6:=by omega
    have HR:=Hd (show R=false by rw [HL.out hk hl,leafB,decide_eq_false a1];simp)
    clear HK HL HF
    go_wp2_with fail
    refine bodyPost_ret (v:=.bool false) (by simp [results,Tryz.results42,go_sem]) rfl ?_
    exact ⟨by rw [HR.out],u01⟩
theorem page_long {x:TPage} (h:¬x.2.1.length≤6):pageB x=false:=by
 unfold pageB
 split
 ·rw [leafB,decide_eq_false h];simp
 ·unfold forkB
  by_cases q:inB (x.2.2.2.length:Int) 2 6=true
  ·have:=inB_t.1 q
   rw [decide_eq_false (show ¬(x.2.1.length:Int)=(x.2.2.2.length:Int)-1 by omega)];simp
  ·have q':inB (x.2.2.2.length:Int) 2 6=false:=by simpa using q
   rw [q'];simp
theorem long_t {l:List ByteArray} {k:Nat} (hk:k<l.length) (h:64<l[k].size):longB l=true:=by
 unfold longB
 exact List.any_eq_true.2 ⟨l[k],List.getElem_mem hk,decide_eq_true h⟩
theorem long_f {l:List ByteArray} (h:∀j (hj:j<l.length),l[j].size≤64):longB l=false:=by
 unfold longB
 refine List.any_eq_false.2 fun y hy=>?_
 obtain ⟨j,hj,rfl⟩:=List.getElem_of_mem hy
 have:=h j hj
 simp;omega
theorem kid_t {l:List Int} {k:Nat} (hk:k<l.length) (h:inB l[k] 1 64=false):l.any notKid=true:=List.any_eq_true.2 ⟨l[k],List.getElem_mem hk,by simp [notKid,h]⟩
theorem kid_f {l:List Int} (h:∀j (hj:j<l.length),inB l[j] 1 64=true):l.any notKid=false:=by
 refine List.any_eq_false.2 fun y hy=>?_
 obtain ⟨j,hj,rfl⟩:=List.getElem_of_mem hy
 simp [notKid,h j hj]
theorem c_specPageOk (v:Value) (x:TPage) (w:World) (h:AV shPage w v x) (hz:∀s∈x.2.1,s.size≤1048576):Calls Tryz.prog 28 #[v] w (RetV (.bool (pageB x)) w):=by
 obtain ⟨cs,rfl,h⟩:=h
 obtain ⟨A1,c1,A2,c2,A3,c3,rfl,b1,b2,b3⟩:=openPage h
 clear h
 have l1:=b1.len_le
 have l2:=b2.len_le
 have l3:=b3.len_le
 have kA:=Bk.new w 58 #[.bool x.1,.slice A1 x.2.1.length c1,.slice A2 x.2.2.1.length c2,.slice A3 x.2.2.2.length c3]
 have uA:Up w (w.alloc (.cells #[.bool x.1,.slice A1 x.2.1.length c1,.slice A2 x.2.2.1.length c2,.slice A3 x.2.2.2.length c3] 58)):=(Up.refl w).alloc _
 have HK:=Hd (fun (hh:keysB x.2.1=false)=>page_nokeys hh)
 have HL:=Hd (fun (hh:keysB x.2.1=true) (hl:x.1=true)=>page_leaf hh hl)
 have HF:=Hd (fun (hh:keysB x.2.1=true) (hl:x.1=false)=>page_fork hh hl)
 have HM:=Hd (fun (hh:¬x.2.1.length≤6)=>page_long hh)
 generalize pageB x=R at *
 have g0:(w.alloc (.cells #[.bool x.1,.slice A1 x.2.1.length c1,.slice A2 x.2.2.1.length c2,.slice A3 x.2.2.2.length c3] 58)).cell? ⟨w.heap.size,0,none⟩=some (.bool x.1):=kA.cell 0
 have g1:(w.alloc (.cells #[.bool x.1,.slice A1 x.2.1.length c1,.slice A2 x.2.2.1.length c2,.slice A3 x.2.2.2.length c3] 58)).cell? ⟨w.heap.size,1,none⟩=some (.slice A1 x.2.1.length c1):=kA.cell 1
 have g2:(w.alloc (.cells #[.bool x.1,.slice A1 x.2.1.length c1,.slice A2 x.2.2.1.length c2,.slice A3 x.2.2.2.length c3] 58)).cell? ⟨w.heap.size,2,none⟩=some (.slice A2 x.2.2.1.length c2):=kA.cell 2
 have g3:(w.alloc (.cells #[.bool x.1,.slice A1 x.2.1.length c1,.slice A2 x.2.2.1.length c2,.slice A3 x.2.2.2.length c3] 58)).cell? ⟨w.heap.size,3,none⟩=some (.slice A3 x.2.2.2.length c3):=kA.cell 3
 go_enter Tryz.func28,Tryz.ntmps28
 go_wp2_with fail
 refine (c_l15Keys x.2.1 A1 c1 _ (b1.up good_S uA) hz).mono ?_
 rintro e w1 ⟨rfl,u1⟩
 have u01:=uA.trans u1
 have k1:=kA.up u1
 clear g0 g1 g2 g3
 by_cases a1:x.2.1.length≤6
 ·cases hk:keysB x.2.1
  ·have HR:=Hd (HK.out hk)
   have hv:(false&&decide (x.2.1.length≤6))=false:=rfl
   rw [hv]
   clear HK HL HF HM
   go_wp2_with fail
   refine bodyPost_ret (v:=.bool false) (by simp [results,Tryz.results28,go_sem]) rfl ?_
   exact ⟨by rw [HR.out],u01⟩
  ·have hv:(true&&decide (x.2.1.length≤6))=true:=by rw [decide_eq_true a1];rfl
   rw [hv]
   cases hl:x.1
   ·have g0:w1.cell? ⟨w.heap.size,0,none⟩=some (.bool false):=hl▸k1.cell 0
    have g1:w1.cell? ⟨w.heap.size,1,none⟩=some (.slice A1 x.2.1.length c1):=k1.cell 1
    have g2:w1.cell? ⟨w.heap.size,2,none⟩=some (.slice A2 x.2.2.1.length c2):=k1.cell 2
    have g3:w1.cell? ⟨w.heap.size,3,none⟩=some (.slice A3 x.2.2.2.length c3):=k1.cell 3
    have hw3:IntKind.i64.wrap ((x.2.2.2.length:Int)-1)=(x.2.2.2.length:Int)-1:=IntWalk.i64_in _ (by omega)
    go_wp2_with fail
    go_loopw [4] (fun i wr=>∃k:Nat,k≤x.2.2.2.length∧k≤7∧i=.int .i64 k∧Hid (∀j (hj:j<x.2.2.2.length),j<k→inB x.2.2.2[j] 1 64=true)∧Up w1 wr) (fun i _=>x.2.2.2.length-(intOf i).toNat)
    case atStart=>exact ⟨0,Nat.zero_le _,Nat.zero_le _,rfl,Hd (fun j hj h1=>absurd h1 (by omega)),Up.refl _⟩
    case round =>
     clear g0 g1 g2 g3
     obtain ⟨k,hk8,hk7,rfl,HB,hu⟩:=hrel
     have u02:=u01.trans hu
     have k2:=k1.up hu
     have g0:wr.cell? ⟨w.heap.size,0,none⟩=some (.bool false):=hl▸k2.cell 0
     have g1:wr.cell? ⟨w.heap.size,1,none⟩=some (.slice A1 x.2.1.length c1):=k2.cell 1
     have g2:wr.cell? ⟨w.heap.size,2,none⟩=some (.slice A2 x.2.2.1.length c2):=k2.cell 2
     have g3:wr.cell? ⟨w.heap.size,3,none⟩=some (.slice A3 x.2.2.2.length c3):=k2.cell 3
     by_cases hlt:k<x.2.2.2.length∧k≤6
     ·obtain ⟨hlt,hk6⟩:=hlt
      have hk6i:(k:Int)≤6:=by omega
      obtain ⟨g,off,hgo,_,_,hc,he1,he2⟩:=(b3.up good_I u02).at_I hlt
      subst hgo
      cases hs:inB x.2.2.2[k] 1 64
      ·have HR:=Hd (show R=false by rw [HF.out hk hl,forkB,kid_t hlt hs];simp)
       clear HK HL HF HM
       go_wp2_with (go_at_call 27;refine (in_any _ _ _ _).mono ?_;rintro e w' ⟨rfl,rfl⟩;rw [hs])
       refine bodyPost_ret (v:=.bool false) (by simp [results,Tryz.results28,go_sem]) rfl ?_
       exact ⟨by rw [HR.out],u02⟩
      ·have HN:Hid (∀j (hj:j<x.2.2.2.length),j<k+1→inB x.2.2.2[j] 1 64=true):=Hd fun j hj h1=>by
        by_cases e:j=k
        ·subst e;exact hs
        ·exact HB.out j hj (by omega)
       go_wp2_with (go_at_call 27;refine (in_any _ _ _ _).mono ?_;rintro e w' ⟨rfl,rfl⟩;rw [hs])
       go_roundw
       case rel=>exact ⟨k+1,by omega,by omega,by go_num,HN,hu⟩
       case measure=>simp [intOf];omega
     ·have hex:k=x.2.2.2.length∨k=7:=by
       rcases Nat.lt_or_ge k x.2.2.2.length with h | h
       ·exact .inr (by have:¬k≤6:=fun hh=>hlt ⟨h,hh⟩;omega)
       ·exact .inl (by omega)
      have HX:=Hd hex
      have hstop:¬((k:Int)<(x.2.2.2.length:Int)∧(k:Int)≤6):=fun hh=>hlt ⟨by omega,by omega⟩
      clear hex
      by_cases hd:(k:Int)<(x.2.2.2.length:Int)
      ·have hd6:¬(k:Int)≤6:=fun hh=>hstop ⟨hd,hh⟩
       clear hstop
       cases q1:inB (x.2.2.2.length:Int) 2 6
       ·have HR:=Hd (show R=false by rw [HF.out hk hl,forkB,q1];rfl)
        clear HK HL HF HM
        go_wp2_with (go_at_call 27;refine (in_any _ _ _ _).mono ?_;rintro e w' ⟨rfl,rfl⟩;rw [q1])
        refine bodyPost_ret (v:=.bool false) (by simp [results,Tryz.results28,go_sem]) rfl ?_
        exact ⟨by rw [HR.out],u02⟩
       ·exfalso
        have q2:=inB_t.1 q1
        rcases HX.out with h | h <;> omega
      ·clear hstop
       cases q1:inB (x.2.2.2.length:Int) 2 6
       ·have HR:=Hd (show R=false by rw [HF.out hk hl,forkB,q1];rfl)
        clear HK HL HF HM
        go_wp2_with (go_at_call 27;refine (in_any _ _ _ _).mono ?_;rintro e w' ⟨rfl,rfl⟩;rw [q1])
        refine bodyPost_ret (v:=.bool false) (by simp [results,Tryz.results28,go_sem]) rfl ?_
        exact ⟨by rw [HR.out],u02⟩
       ·have q2:=inB_t.1 q1
        have hnk:x.2.2.2.any notKid=false:=kid_f fun j hj=>HB.out j hj (by rcases HX.out with h | h <;> omega)
        by_cases a2:(x.2.1.length:Int)=(x.2.2.2.length:Int)-1
        ·have e2:((x.2.1.length:Int)==((x.2.2.2.length:Int)-1))=true:=beq_iff_eq.2 (by omega)
         by_cases a3:x.2.2.1.length=0
         ·have e3:((x.2.2.1.length:Int)==0)=true:=beq_iff_eq.2 (by omega)
          have HR:=Hd (show R=true by rw [HF.out hk hl,forkB,q1,hnk,decide_eq_true a2,decide_eq_true a3];rfl)
          clear HK HL HF HM a2
          go_wp2_with (go_at_call 27;refine (in_any _ _ _ _).mono ?_;rintro e w' ⟨rfl,rfl⟩;rw [q1])
          refine bodyPost_ret (v:=.bool true) (by simp [results,Tryz.results28,go_sem]) rfl ?_
          exact ⟨by rw [HR.out],u02⟩
         ·have e3:((x.2.2.1.length:Int)==0)=false:=beq_eq_false_iff_ne.2 (by omega)
          have e3p:¬(x.2.2.1.length:Int)=0:=by omega
          have HR:=Hd (show R=false by rw [HF.out hk hl,forkB,decide_eq_false a3];simp)
          clear HK HL HF HM a2
          go_wp2_with (go_at_call 27;refine (in_any _ _ _ _).mono ?_;rintro e w' ⟨rfl,rfl⟩;rw [q1])
          refine bodyPost_ret (v:=.bool false) (by simp [results,Tryz.results28,go_sem]) rfl ?_
          exact ⟨by rw [HR.out],u02⟩
        ·have e2:((x.2.1.length:Int)==((x.2.2.2.length:Int)-1))=false:=beq_eq_false_iff_ne.2 (by omega)
         have e2p:¬(x.2.1.length:Int)=((x.2.2.2.length:Int)-1):=by omega
         have HR:=Hd (show R=false by rw [HF.out hk hl,forkB,decide_eq_false a2];simp)
         clear HK HL HF HM
         go_wp2_with (go_at_call 27;refine (in_any _ _ _ _).mono ?_;rintro e w' ⟨rfl,rfl⟩;rw [q1])
         refine bodyPost_ret (v:=.bool false) (by simp [results,Tryz.results28,go_sem]) rfl ?_
         exact ⟨by rw [HR.out],u02⟩
   ·have g0:w1.cell? ⟨w.heap.size,0,none⟩=some (.bool true):=hl▸k1.cell 0
    have g1:w1.cell? ⟨w.heap.size,1,none⟩=some (.slice A1 x.2.1.length c1):=k1.cell 1
    have g2:w1.cell? ⟨w.heap.size,2,none⟩=some (.slice A2 x.2.2.1.length c2):=k1.cell 2
    have g3:w1.cell? ⟨w.heap.size,3,none⟩=some (.slice A3 x.2.2.2.length c3):=k1.cell 3
    go_wp2_with fail
    go_loopw [3] (fun i wr=>∃k:Nat,k≤x.2.2.1.length∧k≤7∧i=.int .i64 k∧Hid (∀j (hj:j<x.2.2.1.length),j<k→x.2.2.1[j].size≤64)∧Up w1 wr) (fun i _=>x.2.2.1.length-(intOf i).toNat)
    case atStart=>exact ⟨0,Nat.zero_le _,Nat.zero_le _,rfl,Hd (fun j hj h1=>absurd h1 (by omega)),Up.refl _⟩
    case round =>
     clear g0 g1 g2 g3
     obtain ⟨k,hk8,hk7,rfl,HB,hu⟩:=hrel
     have u02:=u01.trans hu
     have k2:=k1.up hu
     have g0:wr.cell? ⟨w.heap.size,0,none⟩=some (.bool true):=hl▸k2.cell 0
     have g1:wr.cell? ⟨w.heap.size,1,none⟩=some (.slice A1 x.2.1.length c1):=k2.cell 1
     have g2:wr.cell? ⟨w.heap.size,2,none⟩=some (.slice A2 x.2.2.1.length c2):=k2.cell 2
     have g3:wr.cell? ⟨w.heap.size,3,none⟩=some (.slice A3 x.2.2.2.length c3):=k2.cell 3
     by_cases hlt:k<x.2.2.1.length∧k≤6
     ·obtain ⟨hlt,hk6⟩:=hlt
      have hk6i:(k:Int)≤6:=by omega
      obtain ⟨g,off,hgo,_,_,hc,hb1⟩:=(b2.up good_S u02).at_S hlt
      subst hgo
      by_cases hs:x.2.2.1[k].size≤64
      ·have HN:Hid (∀j (hj:j<x.2.2.1.length),j<k+1→x.2.2.1[j].size≤64):=Hd fun j hj h1=>by
        by_cases e:j=k
        ·subst e;exact hs
        ·exact HB.out j hj (by omega)
       have hsi:¬(64:Int)<(x.2.2.1[k].size:Int):=by omega
       go_wp2_with fail
       go_roundw
       case rel=>exact ⟨k+1,by omega,by omega,by go_num,HN,hu⟩
       case measure=>simp [intOf];omega
      ·have hsi:(64:Int)<(x.2.2.1[k].size:Int):=by omega
       have HR:=Hd (show R=false by rw [HL.out hk hl,leafB,long_t hlt (by omega)];simp)
       clear HK HL HF HM
       go_wp2_with fail
       refine bodyPost_ret (v:=.bool false) (by simp [results,Tryz.results28,go_sem]) rfl ?_
       exact ⟨by rw [HR.out],u02⟩
     ·have hex:k=x.2.2.1.length∨k=7:=by
       rcases Nat.lt_or_ge k x.2.2.1.length with h | h
       ·exact .inr (by have:¬k≤6:=fun hh=>hlt ⟨h,hh⟩;omega)
       ·exact .inl (by omega)
      have HX:=Hd hex
      have hstop:¬((k:Int)<(x.2.2.1.length:Int)∧(k:Int)≤6):=fun hh=>hlt ⟨by omega,by omega⟩
      clear hex
      by_cases hd:(k:Int)<(x.2.2.1.length:Int)
      ·have hd6:¬(k:Int)≤6:=fun hh=>hstop ⟨hd,hh⟩
       clear hstop
       by_cases a2:x.2.2.1.length=x.2.1.length
       ·have hnl:longB x.2.2.1=false:=long_f fun j hj=>HB.out j hj (by rcases HX.out with h | h <;> omega)
        have e2:((x.2.2.1.length:Int)==(x.2.1.length:Int))=true:=beq_iff_eq.2 (by omega)
        have A2h:=Hd a2
        clear a2
        by_cases a3:x.2.2.2.length=0
        ·have e3:((x.2.2.2.length:Int)==0)=true:=beq_iff_eq.2 (by omega)
         have HR:=Hd (show R=true by rw [HL.out hk hl,leafB,hnl,decide_eq_true a1,decide_eq_true A2h.out,decide_eq_true a3];rfl)
         clear HK HL HF HM
         go_wp2_with fail
         refine bodyPost_ret (v:=.bool true) (by simp [results,Tryz.results28,go_sem]) rfl ?_
         exact ⟨by rw [HR.out],u02⟩
        ·have e3:((x.2.2.2.length:Int)==0)=false:=beq_eq_false_iff_ne.2 (by omega)
         have e3p:¬(x.2.2.2.length:Int)=0:=by omega
         have HR:=Hd (show R=false by rw [HL.out hk hl,leafB,decide_eq_false a3];simp)
         clear HK HL HF HM
         go_wp2_with fail
         refine bodyPost_ret (v:=.bool false) (by simp [results,Tryz.results28,go_sem]) rfl ?_
         exact ⟨by rw [HR.out],u02⟩
       ·have e2:((x.2.2.1.length:Int)==(x.2.1.length:Int))=false:=beq_eq_false_iff_ne.2 (by omega)
        have e2p:¬(x.2.2.1.length:Int)=(x.2.1.length:Int):=by omega
        have HR:=Hd (show R=false by rw [HL.out hk hl,leafB,decide_eq_false a2];simp)
        clear HK HL HF HM
        go_wp2_with fail
        refine bodyPost_ret (v:=.bool false) (by simp [results,Tryz.results28,go_sem]) rfl ?_
        exact ⟨by rw [HR.out],u02⟩
      ·clear hstop
       by_cases a2:x.2.2.1.length=x.2.1.length
       ·have hnl:longB x.2.2.1=false:=long_f fun j hj=>HB.out j hj (by rcases HX.out with h | h <;> omega)
        have e2:((x.2.2.1.length:Int)==(x.2.1.length:Int))=true:=beq_iff_eq.2 (by omega)
        have A2h:=Hd a2
        clear a2
        by_cases a3:x.2.2.2.length=0
        ·have e3:((x.2.2.2.length:Int)==0)=true:=beq_iff_eq.2 (by omega)
         have HR:=Hd (show R=true by rw [HL.out hk hl,leafB,hnl,decide_eq_true a1,decide_eq_true A2h.out,decide_eq_true a3];rfl)
         clear HK HL HF HM
         go_wp2_with fail
         refine bodyPost_ret (v:=.bool true) (by simp [results,Tryz.results28,go_sem]) rfl ?_
         exact ⟨by rw [HR.out],u02⟩
        ·have e3:((x.2.2.2.length:Int)==0)=false:=beq_eq_false_iff_ne.2 (by omega)
         have e3p:¬(x.2.2.2.length:Int)=0:=by omega
         have HR:=Hd (show R=false by rw [HL.out hk hl,leafB,decide_eq_false a3];simp)
         clear HK HL HF HM
         go_wp2_with fail
         refine bodyPost_ret (v:=.bool false) (by simp [results,Tryz.results28,go_sem]) rfl ?_
         exact ⟨by rw [HR.out],u02⟩
       ·have e2:((x.2.2.1.length:Int)==(x.2.1.length:Int))=false:=beq_eq_false_iff_ne.2 (by omega)
        have e2p:¬(x.2.2.1.length:Int)=(x.2.1.length:Int):=by omega
        have HR:=Hd (show R=false by rw [HL.out hk hl,leafB,decide_eq_false a2];simp)
        clear HK HL HF HM
        go_wp2_with fail
        refine bodyPost_ret (v:=.bool false) (by simp [results,Tryz.results28,go_sem]) rfl ?_
        exact ⟨by rw [HR.out],u02⟩
 ·have HR:=Hd (HM.out a1)
  have hv:(keysB x.2.1&&decide (x.2.1.length≤6))=false:=by rw [decide_eq_false a1];simp
  rw [hv]
  clear HK HL HF HM
  go_wp2_with fail
  refine bodyPost_ret (v:=.bool false) (by simp [results,Tryz.results28,go_sem]) rfl ?_
  exact ⟨by rw [HR.out],u01⟩
def SlotsTo (l:List TSlot) (k:Nat):Prop:=∀i (h:i<l.length),i<k→inB l[i].1 1 64=true∧pageB l[i].2=true∧(0<i→(l[i-1]'(by omega)).1<l[i].1)
def SlotsP (l:List TSlot):Prop:=∀i (h:i<l.length),inB l[i].1 1 64=true∧pageB l[i].2=true∧(0<i→(l[i-1]'(by omega)).1<l[i].1)
instance (l:List TSlot):Decidable (SlotsP l):=by unfold SlotsP;infer_instance
def slotsB (l:List TSlot):Bool:=decide (SlotsP l)
theorem slotsB_t {l:List TSlot} (h:SlotsP l):slotsB l=true:=decide_eq_true h
theorem slotsB_f {l:List TSlot} (h:¬SlotsP l):slotsB l=false:=decide_eq_false h
theorem slotsTo_one {l:List TSlot} (h:0<l.length) (h1:inB l[0].1 1 64=true) (h2:pageB l[0].2=true):SlotsTo l (0+1):=fun j hj hk=>by
 obtain rfl:j=0:=by omega
 exact ⟨h1,h2,fun hh=>absurd hh (by omega)⟩
theorem slotsTo_succ {l:List TSlot} {m:Nat} (hm:m+1<l.length) (h:SlotsTo l (m+1)) (h1:inB l[m+1].1 1 64=true) (h2:pageB l[m+1].2=true) (h3:l[m].1<l[m+1].1):SlotsTo l (m+1+1):=fun j hj hk=>by
 by_cases e:j=m+1
 ·subst e;exact ⟨h1,h2,fun _=>h3⟩
 ·exact h j hj (by omega)
theorem slots_ids {l:List TSlot} (h:SlotsP l):∀i (hi:i<l.length),(i:Int)+1≤l[i].1
 | 0,hi=>by have:=inB_t.1 (h 0 hi).1;omega
 | i+1,hi=>by
  have h1:=slots_ids h i (by omega)
  have h2:=(h (i+1) hi).2.2 (by omega)
  simp only [Nat.add_sub_cancel] at h2
  omega
theorem slots_len {l:List TSlot} (h:SlotsP l):l.length≤64:=by
 rcases Nat.eq_zero_or_pos l.length with h0 | hp
 ·omega
 ·have h1:=slots_ids h (l.length-1) (by omega)
  have h2:=inB_t.1 (h (l.length-1) (by omega)).1
  omega
theorem page_sz {x:TPage} (h:shPage.sz x≤1048576):∀s∈x.2.1,s.size≤1048576:=fun s hs=>by
 obtain ⟨i,hi,rfl⟩:=List.getElem_of_mem hs
 have e:shPage.sz x=0+((shL shS).sz x.2.1+((shL shS).sz x.2.2.1+(shL shI).sz x.2.2.2)):=rfl
 have h1:(shL shS).sz x.2.1≤1048576:=by omega
 exact sz_le shS x.2.1 hi h1
theorem slot_sz {x:TSlot} (h:shSlot.sz x≤1048576):shPage.sz x.2≤1048576:=by
 have e:shSlot.sz x=0+shPage.sz x.2:=rfl
 omega
end Go.Proofs.YtojmcmghmnfjeaaGreatDoor
