/-
 The walk over a tree of pages: the program's.
-/
import Derived.Test.YthdnicfbnihoaaaGreatDoorM4Bq
import Derived.Test.YthdnicfbnihoaaaGreatDoorM4E
set_option maxHeartbeats 4000000
set_option maxRecDepth 100000
namespace Go.Proofs.YthdnicfbnihoaaaGreatDoor
open Go.RowKit
set_option linter.unusedVariables false
set_option linter.unusedSimpArgs false
def depV:Option Nat→Int
 | none=>-1
 | some d=>(d:Int) - 1
structure WalkR (w:World) (lo hi tb sb wb:Nat) (x:TBtree) (s:TWalk):Prop where
 pg:PagesR w lo hi tb x
 h1:hi≤sb
 h2:hi≤wb
 h3:sb≠wb
 kw:Bk w wb 138 #[.pointer (some ⟨tb,0,none⟩),.map (some sb),.int .i64 (depV s.2)]
 ks:MSet Tryz.prog 2 4 w sb s.1
 ok:MetOk x s.1
 dk:∀d,s.2=some d→1≤d
def WalkE (r:Option TWalk) (lo hi tb sb wb:Nat) (x:TBtree) (s:TWalk) (w:World) (e:Ending) (w':World):Prop :=
 e=.returned (.bool r.isSome)∧Only [sb,wb] w w'∧∀t,r=some t→WalkR w' lo hi tb sb wb x t∧s.1 <+: t.1
theorem c_walk1 (b1 b2:Nat) (low high key:ByteArray) (w:World) (h1:w.cell? ⟨b1,0,none⟩=some (.string low)) (h2:w.cell? ⟨b2,0,none⟩=some (.string high)) :
   Calls Tryz.prog 136 #[.string key,.pointer (some ⟨b1,0,none⟩),.pointer (some ⟨b2,0,none⟩)] w (BoolP (badKey low high key) w):=by
 have HR:Hid (badKey low high key=(bytesLt key low || (decide (high≠⟨#[]⟩) && !bytesLt key high))):=Lib.hid rfl
 generalize badKey low high key=R at HR ⊢
 have hh:∀b,high.toList.isEmpty=b→decide (high≠⟨#[]⟩)=!b:=fun b h=>by
   subst h
   by_cases e:high=⟨#[]⟩
   · subst e;simp [ByteArray.toList_eq]
   · rw [decide_eq_true e]
     cases q:high.toList.isEmpty
     · rfl
     · exfalso
       rw [List.isEmpty_iff,ByteArray.toList_eq] at q
       exact e (ByteArray.ext (Array.toList_inj.1 q))
 cases ha:bytesLt key low
 · have ha':Op.bytesLess key.toList low.toList=false:=ha
   cases he:high.toList.isEmpty
   · have hd:=Lib.hid (hh _ he)
     cases hb:bytesLt key high
     · have hb':Op.bytesLess key.toList high.toList=false:=hb
       have HR':=Lib.hid (show R=true by rw [HR.out,ha,hb,hd.out];rfl)
       clear HR hh ha hb
       go_enter Tryz.func136,Tryz.ntmps136
       go_wp2_with fail
       go_ret
       exact ⟨by rw [HR'.out];rfl,Up.refl _⟩
     · have hb':Op.bytesLess key.toList high.toList=true:=hb
       have HR':=Lib.hid (show R=false by rw [HR.out,ha,hb,hd.out];rfl)
       clear HR hh ha hb
       go_enter Tryz.func136,Tryz.ntmps136
       go_wp2_with fail
       go_ret
       exact ⟨by rw [HR'.out];rfl,Up.refl _⟩
   · have HR':=Lib.hid (show R=false by rw [HR.out,ha,hh _ he];rfl)
     clear HR hh ha
     go_enter Tryz.func136,Tryz.ntmps136
     go_wp2_with fail
     go_ret
     exact ⟨by rw [HR'.out];rfl,Up.refl _⟩
 · have ha':Op.bytesLess key.toList low.toList=true:=ha
   have HR':=Lib.hid (show R=true by rw [HR.out,ha];rfl)
   clear HR hh ha
   go_enter Tryz.func136,Tryz.ntmps136
   go_wp2_with fail
   go_ret
   exact ⟨by rw [HR'.out];rfl,Up.refl _⟩
theorem eg_walk1:∀args w,(callFunc 136 args).run Tryz.prog w=.ok (.enter 136 args) w:=enters_of Tryz.func136 (by kernel_rfl) rfl
theorem zero_boolM (w:World):(zeroValue 4).run Tryz.prog w=.ok (.bool false) w:=by kernel_rfl
theorem zero_pagep (w:World):(zeroValue 171).run Tryz.prog w=.ok (.pointer none) w:=by kernel_rfl
theorem WalkR.up {w w':World} {lo hi tb sb wb:Nat} {x:TBtree} {s:TWalk} (h:WalkR w lo hi tb sb wb x s) (u:Up w w'):WalkR w' lo hi tb sb wb x s :=
 ⟨h.pg.up u (by have:=h.kw.lt;have:=h.h2;omega),h.h1,h.h2,h.h3,h.kw.up u,h.ks.up u,h.ok,h.dk⟩
theorem walk_out {x:TBtree} {lo hi tb sb wb:Nat} {id D:Int} {low high:ByteArray} {s:TWalk} {w:World} (hid:I64 id) (R:WalkR w lo hi tb sb wb x s) (ho:pgAt x id=none∨s.1.contains id=true) :
   Calls Tryz.prog 93 #[.pointer (some ⟨wb,0,none⟩),.int .i64 id,.string low,.string high,.int .i64 D] w (WalkE none lo hi tb sb wb x s w):=by
 have uu:Up w ((w.alloc (.cells #[.string low] 9)).alloc (.cells #[.string high] 9)):=((Up.refl _).alloc _).alloc _
 have R1:=R.up uu
 obtain ⟨pg,h1,h2,h3,kw,ks,ok,dk⟩:=R1
 obtain ⟨pb,n0,f,p1,p2,p3,p4,p5,p6,p7,p8⟩:=pg
 have g0:World.cell? _ ⟨wb,0,none⟩=some (.pointer (some ⟨tb,0,none⟩)):=kw.cell 0
 have g1:World.cell? _ ⟨wb,1,none⟩=some (.map (some sb)):=kw.cell 1
 have g2:World.cell? _ ⟨tb,1,none⟩=some (.map (some pb)):=p1.cell 1
 have hl:=p2.look_ok (t:=168) (e:=171) Tryz.underlying2 Tryz.underlying168 (zero_pagep _) (i:=id) hid
 have hl2:=ks.look (t:=136) Tryz.underlying2 Tryz.underlying136 Tryz.underlying4 (zero_boolM _) (i:=id) hid
 have h8:=p8 id
 clear p8 kw ks p1 p2 p3 ok dk R
 cases hp:pgAt x id with
 | none =>
   rw [h8.1 hp] at hl
   clear h8 hp ho hl2
   simp only [ptrOf,Option.isSome] at hl
   go_enter Tryz.func93,Tryz.ntmps93
   go_wp2_with fail
   go_ret
   exact ⟨rfl,Only.of_up uu,fun t ht=>by cases ht⟩
 | some p =>
   have hc:s.1.contains id=true:=by
     rcases ho with h | h
     · rw [hp] at h;cases h
     · exact h
   obtain ⟨g,cs,hf,_⟩:=h8.2 p hp
   rw [hf] at hl
   rw [hc] at hl2
   clear h8 hp ho hf hc
   simp only [ptrOf,Option.isSome] at hl
   go_enter Tryz.func93,Tryz.ntmps93
   go_wp2_with fail
   go_ret
   exact ⟨rfl,Only.of_up uu,fun t ht=>by cases ht⟩
end Go.Proofs.YthdnicfbnihoaaaGreatDoor
