/-
 Parts of the proof.
-/
import Derived.Test.YtojmcmghmnfjeaaGreatDoorM1Ygg
import Derived.Test.YtojmcmghmnfjeaaGreatDoorM1Bmg
set_option maxHeartbeats 8000000
set_option maxRecDepth 100000
namespace Go.Proofs.YtojmcmghmnfjeaaGreatDoor
open Go.RowKit
set_option linter.unusedVariables false
set_option linter.unusedSimpArgs false
theorem getD_in' {α:Type} {l:List α} {k:Nat} (h:k<l.length) (d:α):l.getD k d=l[k]:=by simp [List.getD,List.getElem?_eq_getElem h]
theorem c_l15Find (v:Value) (p:TPage) (key:ByteArray) (w:World) (h:AV shPage w v p):Calls Tryz.prog 32 #[v,.string key] w (RetV (.tuple #[.int .i64 ((findB p key).1:Int),.bool (findB p key).2]) w):=by
 obtain ⟨cs,rfl,h⟩:=h
 obtain ⟨A1,c1,A2,c2,A3,c3,rfl,b1,b2,b3⟩:=openPage h
 clear h
 have hlen:=b1.len_le
 have kB:=Bk.new w 58 #[.bool p.1,.slice A1 p.2.1.length c1,.slice A2 p.2.2.1.length c2,.slice A3 p.2.2.2.length c3]
 have uu:Up w (w.alloc (.cells #[.bool p.1,.slice A1 p.2.1.length c1,.slice A2 p.2.2.1.length c2,.slice A3 p.2.2.2.length c3] 58)):=(Up.refl _).alloc _
 have HK:=Hd (fun k h1 h2 h3=>keyIdx_eq (l:=p.2.1) (key:=key) (k:=k) h1 h2 h3)
 have HF1:Hid ((findB p key).1=if keyHas p.2.1 key=true∧p.1=false then keyIdx p.2.1 key+1 else keyIdx p.2.1 key):=Hd rfl
 have HF2:Hid ((findB p key).2=(decide (keyIdx p.2.1 key<p.2.1.length)&&decide (p.2.1.getD (keyIdx p.2.1 key) ⟨#[]⟩=key))):=Hd rfl
 have HF3:Hid (keyHas p.2.1 key=(findB p key).2):=Hd rfl
 generalize (findB p key).1=r1 at *
 generalize (findB p key).2=r2 at *
 go_enter Tryz.func32,Tryz.ntmps32
 go_wp2_with fail
 go_loopw [6] (fun i wr=>∃k:Nat,k≤p.2.1.length∧i=.int .i64 k∧Hid (∀j (hj:j<p.2.1.length),j<k→bytesLt p.2.1[j] key=true)∧wr=(w.alloc (.cells #[.bool p.1,.slice A1 p.2.1.length c1,.slice A2 p.2.2.1.length c2,.slice A3 p.2.2.2.length c3] 58))) (fun i _=>p.2.1.length-(intOf i).toNat)
 case atStart=>exact ⟨0,Nat.zero_le _,rfl,Hd (fun j hj h1=>absurd h1 (by omega)),rfl⟩
 case round =>
  obtain ⟨k,hk,rfl,HB,rfl⟩:=hrel
  generalize (w.alloc (.cells #[.bool p.1,.slice A1 p.2.1.length c1,.slice A2 p.2.2.1.length c2,.slice A3 p.2.2.2.length c3] 58))=W0 at kB uu ⊢
  have g0:W0.cell? ⟨w.heap.size,0,none⟩=some (.bool p.1):=kB.cell 0
  have g1:W0.cell? ⟨w.heap.size,1,none⟩=some (.slice A1 p.2.1.length c1):=kB.cell 1
  by_cases hlt:k<p.2.1.length
  ·obtain ⟨g,off,rfl,_,_,hc,hcs⟩:=(b1.up good_S uu).at_S hlt
   cases hl:bytesLt p.2.1[k] key
   ·have hl':Op.bytesLess p.2.1[k].toList key.toList=false:=hl
    have HI:=Hd (HK.out k hk HB.out (fun _=>hl))
    have H2:=Hd (show r2=decide (p.2.1[k]=key) by rw [HF2.out,HI.out,decide_eq_true hlt,getD_in' hlt ⟨#[]⟩,Bool.true_and])
    clear hl HK HB HF2
    cases he:(p.2.1[k].toList==key.toList)
    ·have H3:=Hd (show r2=false by rw [H2.out];exact decide_eq_false (fun e=>by rw [e] at he;simp at he))
     have H1:=Hd (show r1=k by rw [HF1.out,HI.out,HF3.out,H3.out];simp)
     clear H2 HF1 HF3 HI
     go_wp2_with fail
     refine bodyPost_ret (v:=.tuple #[.int .i64 ((k:Int)),.bool false]) (by simp [results,Tryz.results32,go_sem]) rfl ?_
     exact ⟨by rw [H1.out,H3.out],uu⟩
    ·have hee:p.2.1[k]=key:=ByteArray.ext (Array.toList_inj.1 (by have:=beq_iff_eq.1 he;rwa [ByteArray.toList_eq,ByteArray.toList_eq] at this))
     have H3:=Hd (show r2=true by rw [H2.out];exact decide_eq_true hee)
     cases hp:p.1
     ·have H1:=Hd (show r1=k+1 by rw [HF1.out,HI.out,HF3.out,H3.out,hp];simp)
      rw [hp] at g0
      clear H2 HF1 HF3 HI hee
      go_wp2_with fail
      refine bodyPost_ret (v:=.tuple #[.int .i64 ((k:Int)+1),.bool true]) (by simp [results,Tryz.results32,go_sem]) rfl ?_
      exact ⟨by rw [H1.out,H3.out];simp,uu⟩
     ·have H1:=Hd (show r1=k by rw [HF1.out,HI.out,HF3.out,H3.out,hp];simp)
      rw [hp] at g0
      clear H2 HF1 HF3 HI hee
      go_wp2_with fail
      refine bodyPost_ret (v:=.tuple #[.int .i64 ((k:Int)),.bool true]) (by simp [results,Tryz.results32,go_sem]) rfl ?_
      exact ⟨by rw [H1.out,H3.out],uu⟩
   ·have hl':Op.bytesLess p.2.1[k].toList key.toList=true:=hl
    have HN:Hid (∀j (hj:j<p.2.1.length),j<k+1→bytesLt p.2.1[j] key=true):=Hd (fun j hj h1=>by
     by_cases q:j=k
     ·subst q;exact hl
     ·exact HB.out j hj (by omega))
    clear hl
    go_wp2_with fail
    go_roundw
    case rel=>exact ⟨k+1,by omega,by go_num,HN,by first | rfl | trivial⟩
    case measure=>simp [intOf];omega
  ·have HI:=Hd (HK.out k hk HB.out (fun h=>absurd h hlt))
   have H3:=Hd (show r2=false by rw [HF2.out,HI.out,decide_eq_false hlt];rfl)
   have H1:=Hd (show r1=k by rw [HF1.out,HI.out,HF3.out,H3.out];simp)
   obtain rfl:k=p.2.1.length:=by omega
   clear HK HB HF1 HF2 HF3 HI
   go_wp2_with fail
   refine bodyPost_ret (v:=.tuple #[.int .i64 ((p.2.1.length:Int)),.bool false]) (by simp [results,Tryz.results32,go_sem]) rfl ?_
   exact ⟨by rw [H1.out,H3.out],uu⟩
def depV:Option Nat→Int
 | none=>-1
 | some d=>(d:Int)-1
structure WalkR (w:World) (lo hi tb sb wb:Nat) (x:TBtree) (s:TWalk):Prop where
 pg:PagesR w lo hi tb x
 h1:hi≤sb
 h2:hi≤wb
 h3:sb≠wb
 kw:Bk w wb 85 #[.pointer (some ⟨tb,0,none⟩),.map (some sb),.int .i64 (depV s.2)]
 ks:MSet Tryz.prog 2 4 w sb s.1
 ok:MetOk x s.1
 dk:∀d,s.2=some d→1≤d
def WalkE (r:Option TWalk) (lo hi tb sb wb:Nat) (x:TBtree) (s:TWalk) (w:World) (e:Ending) (w':World):Prop :=
 e=.returned (.bool r.isSome)∧Only [sb,wb] w w'∧∀t,r=some t→WalkR w' lo hi tb sb wb x t∧s.1 <+: t.1
theorem c_walk1 (b1 b2:Nat) (low high key:ByteArray) (w:World) (h1:w.cell? ⟨b1,0,none⟩=some (.string low)) (h2:w.cell? ⟨b2,0,none⟩=some (.string high)) :
 Calls Tryz.prog 77 #[.string key,.pointer (some ⟨b1,0,none⟩),.pointer (some ⟨b2,0,none⟩)] w (BoolP (badKey low high key) w):=by
 have HR:Hid (badKey low high key=(bytesLt key low||(decide (high≠⟨#[]⟩)&&!bytesLt key high))):=Hd rfl
 generalize badKey low high key=R at HR ⊢
 have hh:∀b,high.toList.isEmpty=b→decide (high≠⟨#[]⟩)=!b:=fun b h=>by
  subst h
  by_cases e:high=⟨#[]⟩
  ·subst e;simp [ByteArray.toList_eq]
  ·rw [decide_eq_true e]
   cases q:high.toList.isEmpty
   ·rfl
   ·exfalso
    rw [List.isEmpty_iff,ByteArray.toList_eq] at q
    exact e (ByteArray.ext (Array.toList_inj.1 q))
 cases ha:bytesLt key low
 ·have ha':Op.bytesLess key.toList low.toList=false:=ha
  cases he:high.toList.isEmpty
  ·have hd:=Hd (hh _ he)
   cases hb:bytesLt key high
   ·have hb':Op.bytesLess key.toList high.toList=false:=hb
    have HR':=Hd (show R=true by rw [HR.out,ha,hb,hd.out];rfl)
    clear HR hh ha hb
    go_enter Tryz.func77,Tryz.ntmps77
    go_wp2_with fail
    go_ret
    exact ⟨by rw [HR'.out];rfl,Up.refl _⟩
   ·have hb':Op.bytesLess key.toList high.toList=true:=hb
    have HR':=Hd (show R=false by rw [HR.out,ha,hb,hd.out];rfl)
    clear HR hh ha hb
    go_enter Tryz.func77,Tryz.ntmps77
    go_wp2_with fail
    go_ret
    exact ⟨by rw [HR'.out];rfl,Up.refl _⟩
  ·have HR':=Hd (show R=false by rw [HR.out,ha,hh _ he];rfl)
   clear HR hh ha
   go_enter Tryz.func77,Tryz.ntmps77
   go_wp2_with fail
   go_ret
   exact ⟨by rw [HR'.out];rfl,Up.refl _⟩
 ·have ha':Op.bytesLess key.toList low.toList=true:=ha
  have HR':=Hd (show R=true by rw [HR.out,ha];rfl)
  clear HR hh ha
  go_enter Tryz.func77,Tryz.ntmps77
  go_wp2_with fail
  go_ret
  exact ⟨by rw [HR'.out];rfl,Up.refl _⟩
theorem eg_walk1:∀args w,(callFunc 77 args).run Tryz.prog w=.ok (.enter 77 args) w:=enters_of Tryz.func77 (by kernel_rfl) rfl
theorem zero_boolM (w:World):(zeroValue 4).run Tryz.prog w=.ok (.bool false) w:=by kernel_rfl
theorem zero_pagep (w:World):(zeroValue 90).run Tryz.prog w=.ok (.pointer none) w:=by kernel_rfl
theorem WalkR.up {w w':World} {lo hi tb sb wb:Nat} {x:TBtree} {s:TWalk} (h:WalkR w lo hi tb sb wb x s) (u:Up w w'):WalkR w' lo hi tb sb wb x s :=
 ⟨h.pg.up u (by have:=h.kw.lt;have:=h.h2;omega),h.h1,h.h2,h.h3,h.kw.up u,h.ks.up u,h.ok,h.dk⟩
theorem walk_out {x:TBtree} {lo hi tb sb wb:Nat} {id D:Int} {low high:ByteArray} {s:TWalk} {w:World} (hid:I64 id) (R:WalkR w lo hi tb sb wb x s) (ho:pgAt x id=none∨s.1.contains id=true) :
 Calls Tryz.prog 43 #[.pointer (some ⟨wb,0,none⟩),.int .i64 id,.string low,.string high,.int .i64 D] w (WalkE none lo hi tb sb wb x s w):=by
 have uu:Up w ((w.alloc (.cells #[.string low] 9)).alloc (.cells #[.string high] 9)):=((Up.refl _).alloc _).alloc _
 have R1:=R.up uu
 obtain ⟨pg,h1,h2,h3,kw,ks,ok,dk⟩:=R1
 obtain ⟨pb,n0,f,p1,p2,p3,p4,p5,p6,p7,p8⟩:=pg
 have g0:World.cell? _ ⟨wb,0,none⟩=some (.pointer (some ⟨tb,0,none⟩)):=kw.cell 0
 have g1:World.cell? _ ⟨wb,1,none⟩=some (.map (some sb)):=kw.cell 1
 have g2:World.cell? _ ⟨tb,1,none⟩=some (.map (some pb)):=p1.cell 1
 have hl:=p2.look_ok (t:=87) (e:=90) Tryz.underlying2 Tryz.underlying87 (zero_pagep _) (i:=id) hid
 have hl2:=ks.look (t:=83) Tryz.underlying2 Tryz.underlying83 Tryz.underlying4 (zero_boolM _) (i:=id) hid
 have h8:=p8 id
 clear p8 kw ks p1 p2 p3 ok dk R
 cases hp:pgAt x id with
 | none =>
  rw [h8.1 hp] at hl
  clear h8 hp ho hl2
  simp only [ptrOf,Option.isSome] at hl
  go_enter Tryz.func43,Tryz.ntmps43
  go_wp2_with fail
  go_ret
  exact ⟨rfl,Only.of_up uu,fun t ht=>by cases ht⟩
 | some p =>
  have hc:s.1.contains id=true:=by
   rcases ho with h | h
   ·rw [hp] at h;cases h
   ·exact h
  obtain ⟨g,cs,hf,_⟩:=h8.2 p hp
  rw [hf] at hl
  rw [hc] at hl2
  clear h8 hp ho hf hc
  simp only [ptrOf,Option.isSome] at hl
  go_enter Tryz.func43,Tryz.ntmps43
  go_wp2_with fail
  go_ret
  exact ⟨rfl,Only.of_up uu,fun t ht=>by cases ht⟩
end Go.Proofs.YtojmcmghmnfjeaaGreatDoor
