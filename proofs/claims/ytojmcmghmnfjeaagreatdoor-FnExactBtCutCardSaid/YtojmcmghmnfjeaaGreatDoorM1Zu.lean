/-
 Parts of the proof.
-/
import Derived.Test.YtojmcmghmnfjeaaGreatDoorM1Zag
set_option maxHeartbeats 16000000
set_option maxRecDepth 100000
namespace Go.Proofs.YtojmcmghmnfjeaaGreatDoor
open Go Go.RowKit
set_option linter.unusedVariables false
set_option linter.unusedSimpArgs false
def IsPg (C:Array Value):Prop:=∃(f:Bool) (A1:Option Addr) (n1 c1:Nat) (A2:Option Addr) (n2 c2:Nat) (A3:Option Addr) (n3 c3:Nat),C=#[.bool f,.slice A1 n1 c1,.slice A2 n2 c2,.slice A3 n3 c3]
theorem IsPg.t {C:Array Value} (h:IsPg C):NoText C:=by
 obtain ⟨f,A1,n1,c1,A2,n2,c2,A3,n3,c3,rfl⟩:=h
 exact page_noText f A1 n1 c1 A2 n2 c2 A3 n3 c3
theorem IsPg.i {C:Array Value} (h:IsPg C):NoInt C:=by
 obtain ⟨f,A1,n1,c1,A2,n2,c2,A3,n3,c3,rfl⟩:=h
 exact page_noInt f A1 n1 c1 A2 n2 c2 A3 n3 c3
theorem isPg (f:Bool) (A1:Option Addr) (n1 c1:Nat) (A2:Option Addr) (n2 c2:Nat) (A3:Option Addr) (n3 c3:Nat):IsPg #[.bool f,.slice A1 n1 c1,.slice A2 n2 c2,.slice A3 n3 c3]:=⟨f,A1,n1,c1,A2,n2,c2,A3,n3,c3,rfl⟩
theorem PgN.pg {L:List Nat} {w:World} {v:Value} {p:TPage} (h:PgN L w v p):∃C,v=.agg C∧IsPg C:=by
 obtain ⟨A1,c1,A2,c2,A3,c3,hv,_⟩:=h
 exact ⟨_,hv,isPg ..⟩
theorem PgN.butP {L:List Nat} {w w':World} {v:Value} {p:TPage} (h:PgN L w v p) {b:Nat} {t:TypeId} {C:Array Value} (k:Bk w b t C) (hC:IsPg C) (bt:But b w w'):PgN L w' v p:=h.but k hC.t hC.i bt
theorem step_store_pg {P:Program} {ops:Array Oper} {o:Oper} {a:Act} {K:Act→World→Prop} {Q:Exit→Act→World→Prop} {E:Prop} {w:World} (hgd:o.guard=none) (ty:TypeId) (x y:Operand) (ho:o.op=.store ty x y)
 {b:Nat} {t:TypeId} {C C':Array Value} (k:Bk w b t C) (hC:IsPg C) (hC':IsPg C') (hx:a.eval x=.pointer (some ⟨b,0,none⟩)) (hy:a.eval y=.agg C') (hi:(P.info? ty).map (·.size)=some 4)
 (h:∀W,But b w W→Bk W b t C'→K (a.put o.dst undef) W):if Region.wanted o (yielded ops a.tmps)=true then Oper.wp P o a w K Q else E:=by
 have hw:Region.wanted o (yielded ops a.tmps)=true:=by simp [Region.wanted,hgd]
 rw [if_pos hw]
 obtain ⟨f,A1,n1,c1,A2,n2,c2,A3,n3,c3,rfl⟩:=hC
 obtain ⟨f',A1',n1',c1',A2',n2',c2',A3',n3',c3',rfl⟩:=hC'
 refine wp_store_mid ty x y ho b 0 _ hx hy (k.there 0 _ (by simp)) (by rw [hi];rfl) (by simp [Value.oneCell']) ?_
 rw [setCells_wld]
 exact h _ (But.sets _ w 0) (k.setsL [.bool f',.slice A1' n1' c1',.slice A2' n2' c2',.slice A3' n3' c3'] 0)
structure F5 (W:World) (g:Nat) (root:Int) (A:Option Addr) (n c:Nat) (i k:Int) (px py:TPage) (L:List Nat) (D:Nat→Bool) (w:World) (x34 x35 x36 x37 x38 x39 x40 x41 x42 x43 x44 x45 x10 x11:Value):Prop where
 up:Up W w
 o0:D 0=true→x34=.pointer (some ⟨g,0,none⟩)
 o1:D 1=true→x35=.pointer (some ⟨g,0,none⟩)
 o2:D 2=true→x36=.agg #[.int .i64 root,.slice A n c]
 o3:D 3=true→x37=.int .i64 i
 o4:D 4=true→PgN [] w x38 px
 o5:D 5=true→PgN L w x39 px
 o6:D 6=true→x40=.pointer (some ⟨g,0,none⟩)
 o7:D 7=true→x41=.pointer (some ⟨g,0,none⟩)
 o8:D 8=true→x42=.agg #[.int .i64 root,.slice A n c]
 o9:D 9=true→x43=.int .i64 k
 o10:D 10=true→PgN [] w x44 py
 o11:D 11=true→PgN L w x45 py
 o12:D 12=true→∃b C,x10=.pointer (some ⟨b,0,none⟩)∧W.heap.size≤b∧Bk w b 58 C∧IsPg C∧(D 14=true→PgN L w (.agg C) px)
 o13:D 13=true→∃b C,x11=.pointer (some ⟨b,0,none⟩)∧W.heap.size≤b∧Bk w b 58 C∧IsPg C∧(D 15=true→PgN L w (.agg C) py)
 ne:D 12=true→D 13=true→x10≠x11
 d14:D 14=true→D 12=true
 d15:D 15=true→D 13=true
section
variable {W:World} {g:Nat} {root:Int} {A:Option Addr} {n c:Nat} {i k:Int} {px py:TPage} {L:List Nat} {D:Nat→Bool} {w:World} {x34 x35 x36 x37 x38 x39 x40 x41 x42 x43 x44 x45 x10 x11:Value}
theorem F5.go {w':World} (u:Up w w') (F:F5 W g root A n c i k px py L D w x34 x35 x36 x37 x38 x39 x40 x41 x42 x43 x44 x45 x10 x11):F5 W g root A n c i k px py L D w' x34 x35 x36 x37 x38 x39 x40 x41 x42 x43 x44 x45 x10 x11 :=
 ⟨F.up.trans u,F.o0,F.o1,F.o2,F.o3,fun h=>(F.o4 h).up u,fun h=>(F.o5 h).up u,F.o6,F.o7,F.o8,F.o9,fun h=>(F.o10 h).up u,fun h=>(F.o11 h).up u,fun h=>by
  obtain ⟨b,C,h1,h2,h3,h4,h5⟩:=F.o12 h
  exact ⟨b,C,h1,h2,h3.up u,h4,fun h=>(h5 h).up u⟩,fun h=>by
  obtain ⟨b,C,h1,h2,h3,h4,h5⟩:=F.o13 h
  exact ⟨b,C,h1,h2,h3.up u,h4,fun h=>(h5 h).up u⟩,F.ne,F.d14,F.d15⟩
theorem F5.s0 {v:Value} (hv:v=.pointer (some ⟨g,0,none⟩)) (F:F5 W g root A n c i k px py L D w x34 x35 x36 x37 x38 x39 x40 x41 x42 x43 x44 x45 x10 x11):F5 W g root A n c i k px py L (fun j=>decide (j=0)||D j) w v x35 x36 x37 x38 x39 x40 x41 x42 x43 x44 x45 x10 x11 :=
 ⟨F.up,fun _=>hv,fun h=>F.o1 (by simpa using h),fun h=>F.o2 (by simpa using h),fun h=>F.o3 (by simpa using h),fun h=>F.o4 (by simpa using h),fun h=>F.o5 (by simpa using h),fun h=>F.o6 (by simpa using h),fun h=>F.o7 (by simpa using h),fun h=>F.o8 (by simpa using h),fun h=>F.o9 (by simpa using h),fun h=>F.o10 (by simpa using h),fun h=>F.o11 (by simpa using h),fun h=>by
  obtain ⟨b,C,h1,h2,h3,h4,h5⟩:=F.o12 (by simpa using h)
  exact ⟨b,C,h1,h2,h3,h4,fun h=>h5 (by simpa using h)⟩,fun h=>by
  obtain ⟨b,C,h1,h2,h3,h4,h5⟩:=F.o13 (by simpa using h)
  exact ⟨b,C,h1,h2,h3,h4,fun h=>h5 (by simpa using h)⟩,fun h h2=>F.ne (by simpa using h) (by simpa using h2),fun h=>by have:=F.d14 (by simpa using h);simp [this],fun h=>by have:=F.d15 (by simpa using h);simp [this]⟩
theorem F5.s1 {v:Value} (hv:v=.pointer (some ⟨g,0,none⟩)) (F:F5 W g root A n c i k px py L D w x34 x35 x36 x37 x38 x39 x40 x41 x42 x43 x44 x45 x10 x11):F5 W g root A n c i k px py L (fun j=>decide (j=1)||D j) w x34 v x36 x37 x38 x39 x40 x41 x42 x43 x44 x45 x10 x11 :=
 ⟨F.up,fun h=>F.o0 (by simpa using h),fun _=>hv,fun h=>F.o2 (by simpa using h),fun h=>F.o3 (by simpa using h),fun h=>F.o4 (by simpa using h),fun h=>F.o5 (by simpa using h),fun h=>F.o6 (by simpa using h),fun h=>F.o7 (by simpa using h),fun h=>F.o8 (by simpa using h),fun h=>F.o9 (by simpa using h),fun h=>F.o10 (by simpa using h),fun h=>F.o11 (by simpa using h),fun h=>by
  obtain ⟨b,C,h1,h2,h3,h4,h5⟩:=F.o12 (by simpa using h)
  exact ⟨b,C,h1,h2,h3,h4,fun h=>h5 (by simpa using h)⟩,fun h=>by
  obtain ⟨b,C,h1,h2,h3,h4,h5⟩:=F.o13 (by simpa using h)
  exact ⟨b,C,h1,h2,h3,h4,fun h=>h5 (by simpa using h)⟩,fun h h2=>F.ne (by simpa using h) (by simpa using h2),fun h=>by have:=F.d14 (by simpa using h);simp [this],fun h=>by have:=F.d15 (by simpa using h);simp [this]⟩
theorem F5.s2 {v:Value} (hv:v=.agg #[.int .i64 root,.slice A n c]) (F:F5 W g root A n c i k px py L D w x34 x35 x36 x37 x38 x39 x40 x41 x42 x43 x44 x45 x10 x11):F5 W g root A n c i k px py L (fun j=>decide (j=2)||D j) w x34 x35 v x37 x38 x39 x40 x41 x42 x43 x44 x45 x10 x11 :=
 ⟨F.up,fun h=>F.o0 (by simpa using h),fun h=>F.o1 (by simpa using h),fun _=>hv,fun h=>F.o3 (by simpa using h),fun h=>F.o4 (by simpa using h),fun h=>F.o5 (by simpa using h),fun h=>F.o6 (by simpa using h),fun h=>F.o7 (by simpa using h),fun h=>F.o8 (by simpa using h),fun h=>F.o9 (by simpa using h),fun h=>F.o10 (by simpa using h),fun h=>F.o11 (by simpa using h),fun h=>by
  obtain ⟨b,C,h1,h2,h3,h4,h5⟩:=F.o12 (by simpa using h)
  exact ⟨b,C,h1,h2,h3,h4,fun h=>h5 (by simpa using h)⟩,fun h=>by
  obtain ⟨b,C,h1,h2,h3,h4,h5⟩:=F.o13 (by simpa using h)
  exact ⟨b,C,h1,h2,h3,h4,fun h=>h5 (by simpa using h)⟩,fun h h2=>F.ne (by simpa using h) (by simpa using h2),fun h=>by have:=F.d14 (by simpa using h);simp [this],fun h=>by have:=F.d15 (by simpa using h);simp [this]⟩
theorem F5.s3 {v:Value} (hv:v=.int .i64 i) (F:F5 W g root A n c i k px py L D w x34 x35 x36 x37 x38 x39 x40 x41 x42 x43 x44 x45 x10 x11):F5 W g root A n c i k px py L (fun j=>decide (j=3)||D j) w x34 x35 x36 v x38 x39 x40 x41 x42 x43 x44 x45 x10 x11 :=
 ⟨F.up,fun h=>F.o0 (by simpa using h),fun h=>F.o1 (by simpa using h),fun h=>F.o2 (by simpa using h),fun _=>hv,fun h=>F.o4 (by simpa using h),fun h=>F.o5 (by simpa using h),fun h=>F.o6 (by simpa using h),fun h=>F.o7 (by simpa using h),fun h=>F.o8 (by simpa using h),fun h=>F.o9 (by simpa using h),fun h=>F.o10 (by simpa using h),fun h=>F.o11 (by simpa using h),fun h=>by
  obtain ⟨b,C,h1,h2,h3,h4,h5⟩:=F.o12 (by simpa using h)
  exact ⟨b,C,h1,h2,h3,h4,fun h=>h5 (by simpa using h)⟩,fun h=>by
  obtain ⟨b,C,h1,h2,h3,h4,h5⟩:=F.o13 (by simpa using h)
  exact ⟨b,C,h1,h2,h3,h4,fun h=>h5 (by simpa using h)⟩,fun h h2=>F.ne (by simpa using h) (by simpa using h2),fun h=>by have:=F.d14 (by simpa using h);simp [this],fun h=>by have:=F.d15 (by simpa using h);simp [this]⟩
theorem F5.s4 {v:Value} (hv:PgN [] w v px) (F:F5 W g root A n c i k px py L D w x34 x35 x36 x37 x38 x39 x40 x41 x42 x43 x44 x45 x10 x11):F5 W g root A n c i k px py L (fun j=>decide (j=4)||D j) w x34 x35 x36 x37 v x39 x40 x41 x42 x43 x44 x45 x10 x11 :=
 ⟨F.up,fun h=>F.o0 (by simpa using h),fun h=>F.o1 (by simpa using h),fun h=>F.o2 (by simpa using h),fun h=>F.o3 (by simpa using h),fun _=>hv,fun h=>F.o5 (by simpa using h),fun h=>F.o6 (by simpa using h),fun h=>F.o7 (by simpa using h),fun h=>F.o8 (by simpa using h),fun h=>F.o9 (by simpa using h),fun h=>F.o10 (by simpa using h),fun h=>F.o11 (by simpa using h),fun h=>by
  obtain ⟨b,C,h1,h2,h3,h4,h5⟩:=F.o12 (by simpa using h)
  exact ⟨b,C,h1,h2,h3,h4,fun h=>h5 (by simpa using h)⟩,fun h=>by
  obtain ⟨b,C,h1,h2,h3,h4,h5⟩:=F.o13 (by simpa using h)
  exact ⟨b,C,h1,h2,h3,h4,fun h=>h5 (by simpa using h)⟩,fun h h2=>F.ne (by simpa using h) (by simpa using h2),fun h=>by have:=F.d14 (by simpa using h);simp [this],fun h=>by have:=F.d15 (by simpa using h);simp [this]⟩
theorem F5.s5 {v:Value} (hv:PgN L w v px) (F:F5 W g root A n c i k px py L D w x34 x35 x36 x37 x38 x39 x40 x41 x42 x43 x44 x45 x10 x11):F5 W g root A n c i k px py L (fun j=>decide (j=5)||D j) w x34 x35 x36 x37 x38 v x40 x41 x42 x43 x44 x45 x10 x11 :=
 ⟨F.up,fun h=>F.o0 (by simpa using h),fun h=>F.o1 (by simpa using h),fun h=>F.o2 (by simpa using h),fun h=>F.o3 (by simpa using h),fun h=>F.o4 (by simpa using h),fun _=>hv,fun h=>F.o6 (by simpa using h),fun h=>F.o7 (by simpa using h),fun h=>F.o8 (by simpa using h),fun h=>F.o9 (by simpa using h),fun h=>F.o10 (by simpa using h),fun h=>F.o11 (by simpa using h),fun h=>by
  obtain ⟨b,C,h1,h2,h3,h4,h5⟩:=F.o12 (by simpa using h)
  exact ⟨b,C,h1,h2,h3,h4,fun h=>h5 (by simpa using h)⟩,fun h=>by
  obtain ⟨b,C,h1,h2,h3,h4,h5⟩:=F.o13 (by simpa using h)
  exact ⟨b,C,h1,h2,h3,h4,fun h=>h5 (by simpa using h)⟩,fun h h2=>F.ne (by simpa using h) (by simpa using h2),fun h=>by have:=F.d14 (by simpa using h);simp [this],fun h=>by have:=F.d15 (by simpa using h);simp [this]⟩
theorem F5.s6 {v:Value} (hv:v=.pointer (some ⟨g,0,none⟩)) (F:F5 W g root A n c i k px py L D w x34 x35 x36 x37 x38 x39 x40 x41 x42 x43 x44 x45 x10 x11):F5 W g root A n c i k px py L (fun j=>decide (j=6)||D j) w x34 x35 x36 x37 x38 x39 v x41 x42 x43 x44 x45 x10 x11 :=
 ⟨F.up,fun h=>F.o0 (by simpa using h),fun h=>F.o1 (by simpa using h),fun h=>F.o2 (by simpa using h),fun h=>F.o3 (by simpa using h),fun h=>F.o4 (by simpa using h),fun h=>F.o5 (by simpa using h),fun _=>hv,fun h=>F.o7 (by simpa using h),fun h=>F.o8 (by simpa using h),fun h=>F.o9 (by simpa using h),fun h=>F.o10 (by simpa using h),fun h=>F.o11 (by simpa using h),fun h=>by
  obtain ⟨b,C,h1,h2,h3,h4,h5⟩:=F.o12 (by simpa using h)
  exact ⟨b,C,h1,h2,h3,h4,fun h=>h5 (by simpa using h)⟩,fun h=>by
  obtain ⟨b,C,h1,h2,h3,h4,h5⟩:=F.o13 (by simpa using h)
  exact ⟨b,C,h1,h2,h3,h4,fun h=>h5 (by simpa using h)⟩,fun h h2=>F.ne (by simpa using h) (by simpa using h2),fun h=>by have:=F.d14 (by simpa using h);simp [this],fun h=>by have:=F.d15 (by simpa using h);simp [this]⟩
theorem F5.s7 {v:Value} (hv:v=.pointer (some ⟨g,0,none⟩)) (F:F5 W g root A n c i k px py L D w x34 x35 x36 x37 x38 x39 x40 x41 x42 x43 x44 x45 x10 x11):F5 W g root A n c i k px py L (fun j=>decide (j=7)||D j) w x34 x35 x36 x37 x38 x39 x40 v x42 x43 x44 x45 x10 x11 :=
 ⟨F.up,fun h=>F.o0 (by simpa using h),fun h=>F.o1 (by simpa using h),fun h=>F.o2 (by simpa using h),fun h=>F.o3 (by simpa using h),fun h=>F.o4 (by simpa using h),fun h=>F.o5 (by simpa using h),fun h=>F.o6 (by simpa using h),fun _=>hv,fun h=>F.o8 (by simpa using h),fun h=>F.o9 (by simpa using h),fun h=>F.o10 (by simpa using h),fun h=>F.o11 (by simpa using h),fun h=>by
  obtain ⟨b,C,h1,h2,h3,h4,h5⟩:=F.o12 (by simpa using h)
  exact ⟨b,C,h1,h2,h3,h4,fun h=>h5 (by simpa using h)⟩,fun h=>by
  obtain ⟨b,C,h1,h2,h3,h4,h5⟩:=F.o13 (by simpa using h)
  exact ⟨b,C,h1,h2,h3,h4,fun h=>h5 (by simpa using h)⟩,fun h h2=>F.ne (by simpa using h) (by simpa using h2),fun h=>by have:=F.d14 (by simpa using h);simp [this],fun h=>by have:=F.d15 (by simpa using h);simp [this]⟩
theorem F5.s8 {v:Value} (hv:v=.agg #[.int .i64 root,.slice A n c]) (F:F5 W g root A n c i k px py L D w x34 x35 x36 x37 x38 x39 x40 x41 x42 x43 x44 x45 x10 x11):F5 W g root A n c i k px py L (fun j=>decide (j=8)||D j) w x34 x35 x36 x37 x38 x39 x40 x41 v x43 x44 x45 x10 x11 :=
 ⟨F.up,fun h=>F.o0 (by simpa using h),fun h=>F.o1 (by simpa using h),fun h=>F.o2 (by simpa using h),fun h=>F.o3 (by simpa using h),fun h=>F.o4 (by simpa using h),fun h=>F.o5 (by simpa using h),fun h=>F.o6 (by simpa using h),fun h=>F.o7 (by simpa using h),fun _=>hv,fun h=>F.o9 (by simpa using h),fun h=>F.o10 (by simpa using h),fun h=>F.o11 (by simpa using h),fun h=>by
  obtain ⟨b,C,h1,h2,h3,h4,h5⟩:=F.o12 (by simpa using h)
  exact ⟨b,C,h1,h2,h3,h4,fun h=>h5 (by simpa using h)⟩,fun h=>by
  obtain ⟨b,C,h1,h2,h3,h4,h5⟩:=F.o13 (by simpa using h)
  exact ⟨b,C,h1,h2,h3,h4,fun h=>h5 (by simpa using h)⟩,fun h h2=>F.ne (by simpa using h) (by simpa using h2),fun h=>by have:=F.d14 (by simpa using h);simp [this],fun h=>by have:=F.d15 (by simpa using h);simp [this]⟩
theorem F5.s9 {v:Value} (hv:v=.int .i64 k) (F:F5 W g root A n c i k px py L D w x34 x35 x36 x37 x38 x39 x40 x41 x42 x43 x44 x45 x10 x11):F5 W g root A n c i k px py L (fun j=>decide (j=9)||D j) w x34 x35 x36 x37 x38 x39 x40 x41 x42 v x44 x45 x10 x11 :=
 ⟨F.up,fun h=>F.o0 (by simpa using h),fun h=>F.o1 (by simpa using h),fun h=>F.o2 (by simpa using h),fun h=>F.o3 (by simpa using h),fun h=>F.o4 (by simpa using h),fun h=>F.o5 (by simpa using h),fun h=>F.o6 (by simpa using h),fun h=>F.o7 (by simpa using h),fun h=>F.o8 (by simpa using h),fun _=>hv,fun h=>F.o10 (by simpa using h),fun h=>F.o11 (by simpa using h),fun h=>by
  obtain ⟨b,C,h1,h2,h3,h4,h5⟩:=F.o12 (by simpa using h)
  exact ⟨b,C,h1,h2,h3,h4,fun h=>h5 (by simpa using h)⟩,fun h=>by
  obtain ⟨b,C,h1,h2,h3,h4,h5⟩:=F.o13 (by simpa using h)
  exact ⟨b,C,h1,h2,h3,h4,fun h=>h5 (by simpa using h)⟩,fun h h2=>F.ne (by simpa using h) (by simpa using h2),fun h=>by have:=F.d14 (by simpa using h);simp [this],fun h=>by have:=F.d15 (by simpa using h);simp [this]⟩
theorem F5.s10 {v:Value} (hv:PgN [] w v py) (F:F5 W g root A n c i k px py L D w x34 x35 x36 x37 x38 x39 x40 x41 x42 x43 x44 x45 x10 x11):F5 W g root A n c i k px py L (fun j=>decide (j=10)||D j) w x34 x35 x36 x37 x38 x39 x40 x41 x42 x43 v x45 x10 x11 :=
 ⟨F.up,fun h=>F.o0 (by simpa using h),fun h=>F.o1 (by simpa using h),fun h=>F.o2 (by simpa using h),fun h=>F.o3 (by simpa using h),fun h=>F.o4 (by simpa using h),fun h=>F.o5 (by simpa using h),fun h=>F.o6 (by simpa using h),fun h=>F.o7 (by simpa using h),fun h=>F.o8 (by simpa using h),fun h=>F.o9 (by simpa using h),fun _=>hv,fun h=>F.o11 (by simpa using h),fun h=>by
  obtain ⟨b,C,h1,h2,h3,h4,h5⟩:=F.o12 (by simpa using h)
  exact ⟨b,C,h1,h2,h3,h4,fun h=>h5 (by simpa using h)⟩,fun h=>by
  obtain ⟨b,C,h1,h2,h3,h4,h5⟩:=F.o13 (by simpa using h)
  exact ⟨b,C,h1,h2,h3,h4,fun h=>h5 (by simpa using h)⟩,fun h h2=>F.ne (by simpa using h) (by simpa using h2),fun h=>by have:=F.d14 (by simpa using h);simp [this],fun h=>by have:=F.d15 (by simpa using h);simp [this]⟩
theorem F5.s11 {v:Value} (hv:PgN L w v py) (F:F5 W g root A n c i k px py L D w x34 x35 x36 x37 x38 x39 x40 x41 x42 x43 x44 x45 x10 x11):F5 W g root A n c i k px py L (fun j=>decide (j=11)||D j) w x34 x35 x36 x37 x38 x39 x40 x41 x42 x43 x44 v x10 x11 :=
 ⟨F.up,fun h=>F.o0 (by simpa using h),fun h=>F.o1 (by simpa using h),fun h=>F.o2 (by simpa using h),fun h=>F.o3 (by simpa using h),fun h=>F.o4 (by simpa using h),fun h=>F.o5 (by simpa using h),fun h=>F.o6 (by simpa using h),fun h=>F.o7 (by simpa using h),fun h=>F.o8 (by simpa using h),fun h=>F.o9 (by simpa using h),fun h=>F.o10 (by simpa using h),fun _=>hv,fun h=>by
  obtain ⟨b,C,h1,h2,h3,h4,h5⟩:=F.o12 (by simpa using h)
  exact ⟨b,C,h1,h2,h3,h4,fun h=>h5 (by simpa using h)⟩,fun h=>by
  obtain ⟨b,C,h1,h2,h3,h4,h5⟩:=F.o13 (by simpa using h)
  exact ⟨b,C,h1,h2,h3,h4,fun h=>h5 (by simpa using h)⟩,fun h h2=>F.ne (by simpa using h) (by simpa using h2),fun h=>by have:=F.d14 (by simpa using h);simp [this],fun h=>by have:=F.d15 (by simpa using h);simp [this]⟩
theorem F5.s12 {v:Value} (hv:∃b C,v=.pointer (some ⟨b,0,none⟩)∧W.heap.size≤b∧Bk w b 58 C∧IsPg C∧((decide (14=12)||D 14)=true→PgN L w (.agg C) px)) (hne:(fun j=>decide (j=12)||D j) 12=true→(fun j=>decide (j=12)||D j) 13=true→v≠x11) (F:F5 W g root A n c i k px py L D w x34 x35 x36 x37 x38 x39 x40 x41 x42 x43 x44 x45 x10 x11):F5 W g root A n c i k px py L (fun j=>decide (j=12)||D j) w x34 x35 x36 x37 x38 x39 x40 x41 x42 x43 x44 x45 v x11 :=
 ⟨F.up,fun h=>F.o0 (by simpa using h),fun h=>F.o1 (by simpa using h),fun h=>F.o2 (by simpa using h),fun h=>F.o3 (by simpa using h),fun h=>F.o4 (by simpa using h),fun h=>F.o5 (by simpa using h),fun h=>F.o6 (by simpa using h),fun h=>F.o7 (by simpa using h),fun h=>F.o8 (by simpa using h),fun h=>F.o9 (by simpa using h),fun h=>F.o10 (by simpa using h),fun h=>F.o11 (by simpa using h),fun _=>hv,fun h=>by
  obtain ⟨b,C,h1,h2,h3,h4,h5⟩:=F.o13 (by simpa using h)
  exact ⟨b,C,h1,h2,h3,h4,fun h=>h5 (by simpa using h)⟩,hne,fun h=>by have:=F.d14 (by simpa using h);simp [this],fun h=>by have:=F.d15 (by simpa using h);simp [this]⟩
theorem F5.s13 {v:Value} (hv:∃b C,v=.pointer (some ⟨b,0,none⟩)∧W.heap.size≤b∧Bk w b 58 C∧IsPg C∧((decide (15=13)||D 15)=true→PgN L w (.agg C) py)) (hne:(fun j=>decide (j=13)||D j) 12=true→(fun j=>decide (j=13)||D j) 13=true→x10≠v) (F:F5 W g root A n c i k px py L D w x34 x35 x36 x37 x38 x39 x40 x41 x42 x43 x44 x45 x10 x11):F5 W g root A n c i k px py L (fun j=>decide (j=13)||D j) w x34 x35 x36 x37 x38 x39 x40 x41 x42 x43 x44 x45 x10 v :=
 ⟨F.up,fun h=>F.o0 (by simpa using h),fun h=>F.o1 (by simpa using h),fun h=>F.o2 (by simpa using h),fun h=>F.o3 (by simpa using h),fun h=>F.o4 (by simpa using h),fun h=>F.o5 (by simpa using h),fun h=>F.o6 (by simpa using h),fun h=>F.o7 (by simpa using h),fun h=>F.o8 (by simpa using h),fun h=>F.o9 (by simpa using h),fun h=>F.o10 (by simpa using h),fun h=>F.o11 (by simpa using h),fun h=>by
  obtain ⟨b,C,h1,h2,h3,h4,h5⟩:=F.o12 (by simpa using h)
  exact ⟨b,C,h1,h2,h3,h4,fun h=>h5 (by simpa using h)⟩,fun _=>hv,hne,fun h=>by have:=F.d14 (by simpa using h);simp [this],fun h=>by have:=F.d15 (by simpa using h);simp [this]⟩
theorem F5.s14 {w':World} {b:Nat} {C0 C:Array Value} (hb:W.heap.size≤b) (hx:x10=.pointer (some ⟨b,0,none⟩)) (h0:D 12=true) (hnb:D 13=true→x11≠x10) (k0:Bk w b 58 C0) (hC0:IsPg C0) (bt:But b w w') (k1:Bk w' b 58 C) (hC:IsPg C) (hp:PgN L w (.agg C) px) (F:F5 W g root A n c i k px py L D w x34 x35 x36 x37 x38 x39 x40 x41 x42 x43 x44 x45 x10 x11):F5 W g root A n c i k px py L (fun j=>decide (j=14)||D j) w' x34 x35 x36 x37 x38 x39 x40 x41 x42 x43 x44 x45 x10 x11 :=
 ⟨F.up.but bt hb,fun h=>F.o0 (by simpa using h),fun h=>F.o1 (by simpa using h),fun h=>F.o2 (by simpa using h),fun h=>F.o3 (by simpa using h),fun h=>(F.o4 (by simpa using h)).butP k0 hC0 bt,fun h=>(F.o5 (by simpa using h)).butP k0 hC0 bt,fun h=>F.o6 (by simpa using h),fun h=>F.o7 (by simpa using h),fun h=>F.o8 (by simpa using h),fun h=>F.o9 (by simpa using h),fun h=>(F.o10 (by simpa using h)).butP k0 hC0 bt,fun h=>(F.o11 (by simpa using h)).butP k0 hC0 bt,fun _=>⟨b,C,hx,hb,k1,hC,fun _=>hp.butP k0 hC0 bt⟩,fun h=>by
  obtain ⟨b2,C2,h1,h2,h3,h4,h5⟩:=F.o13 (by simpa using h)
  have hne:b2≠b:=fun e=>hnb (by simpa using h) (by rw [h1,hx,e])
  exact ⟨b2,C2,h1,h2,h3.butM bt hne,h4,fun h=>(h5 (by simpa using h)).butP k0 hC0 bt⟩,fun h h2=>F.ne (by simpa using h) (by simpa using h2),fun _=>by simp [h0],fun h=>by have:=F.d15 (by simpa using h);simp [this]⟩
theorem F5.s15 {w':World} {b:Nat} {C0 C:Array Value} (hb:W.heap.size≤b) (hx:x11=.pointer (some ⟨b,0,none⟩)) (h0:D 13=true) (hnb:D 12=true→x10≠x11) (k0:Bk w b 58 C0) (hC0:IsPg C0) (bt:But b w w') (k1:Bk w' b 58 C) (hC:IsPg C) (hp:PgN L w (.agg C) py) (F:F5 W g root A n c i k px py L D w x34 x35 x36 x37 x38 x39 x40 x41 x42 x43 x44 x45 x10 x11):F5 W g root A n c i k px py L (fun j=>decide (j=15)||D j) w' x34 x35 x36 x37 x38 x39 x40 x41 x42 x43 x44 x45 x10 x11 :=
 ⟨F.up.but bt hb,fun h=>F.o0 (by simpa using h),fun h=>F.o1 (by simpa using h),fun h=>F.o2 (by simpa using h),fun h=>F.o3 (by simpa using h),fun h=>(F.o4 (by simpa using h)).butP k0 hC0 bt,fun h=>(F.o5 (by simpa using h)).butP k0 hC0 bt,fun h=>F.o6 (by simpa using h),fun h=>F.o7 (by simpa using h),fun h=>F.o8 (by simpa using h),fun h=>F.o9 (by simpa using h),fun h=>(F.o10 (by simpa using h)).butP k0 hC0 bt,fun h=>(F.o11 (by simpa using h)).butP k0 hC0 bt,fun h=>by
  obtain ⟨b2,C2,h1,h2,h3,h4,h5⟩:=F.o12 (by simpa using h)
  have hne:b2≠b:=fun e=>hnb (by simpa using h) (by rw [h1,hx,e])
  exact ⟨b2,C2,h1,h2,h3.butM bt hne,h4,fun h=>(h5 (by simpa using h)).butP k0 hC0 bt⟩,fun _=>⟨b,C,hx,hb,k1,hC,fun _=>hp.butP k0 hC0 bt⟩,fun h h2=>F.ne (by simpa using h) (by simpa using h2),fun h=>by have:=F.d14 (by simpa using h);simp [this],fun _=>by simp [h0]⟩
end
def firstRegionR (n:Nat):Code→Option Code
 | .loop c=>firstRegionR n c
 | .seq a b=>match firstRegionR n a with
  | some c=>some c
  | none=>firstRegionR n b
 | .block _ c=>firstRegionR n c
 | .scope c=>firstRegionR n c
 | .cond _ a b=>match firstRegionR n a with
  | some c=>some c
  | none=>firstRegionR n b
 | .region k o d=>if k=n then some (.region k o d) else none
 | _=>none
noncomputable def fillReg (n:Nat):Code:=((Tryz.f38.body.bind (firstRegionR n)).getD .skip)
theorem fill_r5 {W:World} {g:Nat} {root:Int} {l:List TSlot} {i k:Int} {px py:TPage} {L:List Nat} {ds:_} {z1 z2 z3 z4 z5 z6 z7 z10 z11 z12 z13 z14 z15 z16 z17 z18 z19 z20 z21 z22 z23 z24 z25 z26 z27 z28 z29 z30 z31 z32 z33 z34 z35 z36 z37 z38 z39 z40 z41 z42 z43 z44 z45 z46 z47 z48 z49 z50 z51 z52 z53 z54 z55 z56 z57 z58 z59 z60 z61 z62 z63 z64 z65 z66 z67 z68 z69 z70 z71 z72 z73 z74 z75 z76 z77 z78 z79 z80 z81 z82 z83 z84 z85 z86 z87 z88 z89 z90 z91 z92 z93 z94 z95 z96 z97 z98 z99 z100 z101 z102 z103 z104 z105 z106 z107 z108 z109 z110 z111 z112 z113 z114 z115 z116 z117 z118 z119 z120 z121 z122 z123 z124:Value} {Q:Exit→Act→World→Prop} (hs:StR W g root l) (hl:IdsP l) (hI:atL l i=some px) (hK:atL l k=some py) (fx:Fine px) (fy:Fine py) (hL:∀q∈L,q<W.heap.size)
 (HQ:Hid (∀(x34 x35 x36 x37 x38 x39 x40 x41 x42 x43 x44 x45:Value) (b10 b11:Nat) (C10 C11:Array Value) (w':World),Up W w'→W.heap.size≤b10→W.heap.size≤b11→b10≠b11→Bk w' b10 58 C10→IsPg C10→PgN L w' (.agg C10) px→Bk w' b11 58 C11→IsPg C11→PgN L w' (.agg C11) py→Q .normal ⟨#[.pointer (some ⟨g,0,none⟩),z1,z2,z3,z4,z5,z6,z7,.int .i64 i,.int .i64 k,.pointer (some ⟨b10,0,none⟩),.pointer (some ⟨b11,0,none⟩),z12,z13,z14,z15,z16,z17,z18,z19,z20,z21,z22,z23,z24,z25,z26,z27,z28,z29,z30,z31,z32,z33,x34,x35,x36,x37,x38,x39,x40,x41,x42,x43,x44,x45,z46,z47,z48,z49,z50,z51,z52,z53,z54,z55,z56,z57,z58,z59,z60,z61,z62,z63,z64,z65,z66,z67,z68,z69,z70,z71,z72,z73,z74,z75,z76,z77,z78,z79,z80,z81,z82,z83,z84,z85,z86,z87,z88,z89,z90,z91,z92,z93,z94,z95,z96,z97,z98,z99,z100,z101,z102,z103,z104,z105,z106,z107,z108,z109,z110,z111,z112,z113,z114,z115,z116,z117,z118,z119,z120,z121,z122,z123,z124],ds⟩ w')) :
 Code.wp Tryz.prog (fillReg 5) Q ⟨#[.pointer (some ⟨g,0,none⟩),z1,z2,z3,z4,z5,z6,z7,.int .i64 i,.int .i64 k,z10,z11,z12,z13,z14,z15,z16,z17,z18,z19,z20,z21,z22,z23,z24,z25,z26,z27,z28,z29,z30,z31,z32,z33,z34,z35,z36,z37,z38,z39,z40,z41,z42,z43,z44,z45,z46,z47,z48,z49,z50,z51,z52,z53,z54,z55,z56,z57,z58,z59,z60,z61,z62,z63,z64,z65,z66,z67,z68,z69,z70,z71,z72,z73,z74,z75,z76,z77,z78,z79,z80,z81,z82,z83,z84,z85,z86,z87,z88,z89,z90,z91,z92,z93,z94,z95,z96,z97,z98,z99,z100,z101,z102,z103,z104,z105,z106,z107,z108,z109,z110,z111,z112,z113,z114,z115,z116,z117,z118,z119,z120,z121,z122,z123,z124],ds⟩ W:=by
 conv=>arg 2;whnf
 obtain ⟨A,c,kg,rk,hro⟩:=hs
 have szx:=fine_sz fx
 have szy:=fine_sz fy
 have CA:=Hd (fun V (u:Up W V)=>c_pageK root l A c i px g V (rk.go good_Slot (only_up u)) hro hl hI)
 have CB:=Hd (fun V (u:Up W V)=>c_pageK root l A c k py g V (rk.go good_Slot (only_up u)) hro hl hK)
 have KG:=Hd kg
 have HLL:=Hd hL
 clear rk kg hl hI hK hL fx fy
 refine wp_region_inv (fun (D:Nat→Bool) (a:Act) (w:World)=>∃x34 x35 x36 x37 x38 x39 x40 x41 x42 x43 x44 x45 x10 x11,a=⟨#[.pointer (some ⟨g,0,none⟩),z1,z2,z3,z4,z5,z6,z7,.int .i64 i,.int .i64 k,x10,x11,z12,z13,z14,z15,z16,z17,z18,z19,z20,z21,z22,z23,z24,z25,z26,z27,z28,z29,z30,z31,z32,z33,x34,x35,x36,x37,x38,x39,x40,x41,x42,x43,x44,x45,z46,z47,z48,z49,z50,z51,z52,z53,z54,z55,z56,z57,z58,z59,z60,z61,z62,z63,z64,z65,z66,z67,z68,z69,z70,z71,z72,z73,z74,z75,z76,z77,z78,z79,z80,z81,z82,z83,z84,z85,z86,z87,z88,z89,z90,z91,z92,z93,z94,z95,z96,z97,z98,z99,z100,z101,z102,z103,z104,z105,z106,z107,z108,z109,z110,z111,z112,z113,z114,z115,z116,z117,z118,z119,z120,z121,z122,z123,z124],ds⟩∧F5 W g root A l.length c i k px py L D w x34 x35 x36 x37 x38 x39 x40 x41 x42 x43 x44 x45 x10 x11) (by kernel_rfl) (by kernel_rfl) ?_ ?_ ?_
 ·exact ⟨z34,z35,z36,z37,z38,z39,z40,z41,z42,z43,z44,z45,z10,z11,rfl,⟨(Up.refl W).drew,(fun h=>absurd h (by simp)),(fun h=>absurd h (by simp)),(fun h=>absurd h (by simp)),(fun h=>absurd h (by simp)),(fun h=>absurd h (by simp)),(fun h=>absurd h (by simp)),(fun h=>absurd h (by simp)),(fun h=>absurd h (by simp)),(fun h=>absurd h (by simp)),(fun h=>absurd h (by simp)),(fun h=>absurd h (by simp)),(fun h=>absurd h (by simp)),(fun h=>absurd h (by simp)),(fun h=>absurd h (by simp)),(fun h=>absurd h (by simp)),(fun h=>absurd h (by simp)),(fun h=>absurd h (by simp))⟩⟩
 ·intro i0 hi0 D a w hn he hI
  have hi:i0<16:=hi0
  obtain ⟨x34,x35,x36,x37,x38,x39,x40,x41,x42,x43,x44,x45,x10,x11,rfl,F⟩:=hI
  have HN:=Hd hn
  clear hn hi0
  obtain rfl | rfl | rfl | rfl | rfl | rfl | rfl | rfl | rfl | rfl | rfl | rfl | rfl | rfl | rfl | rfl:=(by omega:i0=0∨i0=1∨i0=2∨i0=3∨i0=4∨i0=5∨i0=6∨i0=7∨i0=8∨i0=9∨i0=10∨i0=11∨i0=12∨i0=13∨i0=14∨i0=15)
  ·refine wpOp_step rfl (fun K hK=>?_)
   have HK:=Hd hK
   clear hK
   go_simp
   exact HK.out _ _ ⟨_,_,_,_,_,_,_,_,_,_,_,_,_,_,rfl,F.s0 rfl⟩
  ·have p0:=F.o0 (he 0 (by kernel_rfl))
   subst p0
   refine wpOp_step rfl (fun K hK=>?_)
   have HK:=Hd hK
   clear hK
   go_simp
   exact HK.out _ _ ⟨_,_,_,_,_,_,_,_,_,_,_,_,_,_,rfl,F.s1 rfl⟩
  ·have p1:=F.o1 (he 1 (by kernel_rfl))
   subst p1
   have g0:w.cell? ⟨g,0,none⟩=some (.int .i64 root):=(KG.out.up F.up).cell 0
   have g1:w.cell? ⟨g,1,none⟩=some (.slice A l.length c):=(KG.out.up F.up).cell 1
   refine wpOp_step rfl (fun K hK=>?_)
   have HK:=Hd hK
   clear hK
   go_simp
   exact HK.out _ _ ⟨_,_,_,_,_,_,_,_,_,_,_,_,_,_,rfl,F.s2 rfl⟩
  ·refine wpOp_step rfl (fun K hK=>?_)
   have HK:=Hd hK
   clear hK
   go_simp
   exact HK.out _ _ ⟨_,_,_,_,_,_,_,_,_,_,_,_,_,_,rfl,F.s3 rfl⟩
  ·have p2:=F.o2 (he 2 (by kernel_rfl))
   have p3:=F.o3 (he 3 (by kernel_rfl))
   subst p2 p3
   refine wpOp_step rfl (fun K hK=>?_)
   have HK:=Hd hK
   clear hK
   go_simp
   refine (CA.out w F.up).mono ?_
   rintro e w1 ⟨v,rfl,hv,u1⟩
   go_wp2_with fail
   exact HK.out _ _ ⟨_,_,_,_,_,_,_,_,_,_,_,_,_,_,rfl,(F.go u1).s4 ((PgN.of_k hv).sub (by simp))⟩
  ·have p4:=F.o4 (he 4 (by kernel_rfl))
   have CO:=Hd (c_l16OwnPage _ _ w p4.av szx)
   have HFU:=Hd F.up
   clear p4
   refine wpOp_step rfl (fun K hK=>?_)
   have HK:=Hd hK
   clear hK
   go_simp
   refine CO.out.mono ?_
   rintro e w1 ⟨cs,bl,rfl,so,nd,u1⟩
   go_wp2_with fail
   exact HK.out _ _ ⟨_,_,_,_,_,_,_,_,_,_,_,_,_,_,rfl,(F.go u1).s5 (PgN.of_own so fun q hq hm=>by have h1:=(good_Page.own_in so q hq).1;have h2:=HLL.out q hm;have h3:=HFU.out.size;omega)⟩
  ·refine wpOp_step rfl (fun K hK=>?_)
   have HK:=Hd hK
   clear hK
   go_simp
   exact HK.out _ _ ⟨_,_,_,_,_,_,_,_,_,_,_,_,_,_,rfl,F.s6 rfl⟩
  ·have p6:=F.o6 (he 6 (by kernel_rfl))
   subst p6
   refine wpOp_step rfl (fun K hK=>?_)
   have HK:=Hd hK
   clear hK
   go_simp
   exact HK.out _ _ ⟨_,_,_,_,_,_,_,_,_,_,_,_,_,_,rfl,F.s7 rfl⟩
  ·have p7:=F.o7 (he 7 (by kernel_rfl))
   subst p7
   have g0:w.cell? ⟨g,0,none⟩=some (.int .i64 root):=(KG.out.up F.up).cell 0
   have g1:w.cell? ⟨g,1,none⟩=some (.slice A l.length c):=(KG.out.up F.up).cell 1
   refine wpOp_step rfl (fun K hK=>?_)
   have HK:=Hd hK
   clear hK
   go_simp
   exact HK.out _ _ ⟨_,_,_,_,_,_,_,_,_,_,_,_,_,_,rfl,F.s8 rfl⟩
  ·refine wpOp_step rfl (fun K hK=>?_)
   have HK:=Hd hK
   clear hK
   go_simp
   exact HK.out _ _ ⟨_,_,_,_,_,_,_,_,_,_,_,_,_,_,rfl,F.s9 rfl⟩
  ·have p8:=F.o8 (he 8 (by kernel_rfl))
   have p9:=F.o9 (he 9 (by kernel_rfl))
   subst p8 p9
   refine wpOp_step rfl (fun K hK=>?_)
   have HK:=Hd hK
   clear hK
   go_simp
   refine (CB.out w F.up).mono ?_
   rintro e w1 ⟨v,rfl,hv,u1⟩
   go_wp2_with fail
   exact HK.out _ _ ⟨_,_,_,_,_,_,_,_,_,_,_,_,_,_,rfl,(F.go u1).s10 ((PgN.of_k hv).sub (by simp))⟩
  ·have p10:=F.o10 (he 10 (by kernel_rfl))
   have CO:=Hd (c_l16OwnPage _ _ w p10.av szy)
   have HFU:=Hd F.up
   clear p10
   refine wpOp_step rfl (fun K hK=>?_)
   have HK:=Hd hK
   clear hK
   go_simp
   refine CO.out.mono ?_
   rintro e w1 ⟨cs,bl,rfl,so,nd,u1⟩
   go_wp2_with fail
   exact HK.out _ _ ⟨_,_,_,_,_,_,_,_,_,_,_,_,_,_,rfl,(F.go u1).s11 (PgN.of_own so fun q hq hm=>by have h1:=(good_Page.own_in so q hq).1;have h2:=HLL.out q hm;have h3:=HFU.out.size;omega)⟩
  ·refine wpOp_step rfl (fun K hK=>?_)
   have HK:=Hd hK
   clear hK
   go_simp
   refine HK.out _ _ ⟨_,_,_,_,_,_,_,_,_,_,_,_,_,_,rfl,(F.go ((Up.refl w).alloc _)).s12 ⟨w.heap.size,_,rfl,F.up.size,Bk.new _ _ _,isPg ..,fun h=>?_⟩ ?_⟩
   ·have:=F.d14 (by simpa using h)
    rw [HN.out] at this
    cases this
   ·intro _ h
    obtain ⟨b,C,h1,h2,h3,_⟩:=F.o13 (by simpa using h)
    have:=h3.lt
    rw [h1]
    simp <;> omega
  ·refine wpOp_step rfl (fun K hK=>?_)
   have HK:=Hd hK
   clear hK
   go_simp
   refine HK.out _ _ ⟨_,_,_,_,_,_,_,_,_,_,_,_,_,_,rfl,(F.go ((Up.refl w).alloc _)).s13 ⟨w.heap.size,_,rfl,F.up.size,Bk.new _ _ _,isPg ..,fun h=>?_⟩ ?_⟩
   ·have:=F.d15 (by simpa using h)
    rw [HN.out] at this
    cases this
   ·intro h _
    obtain ⟨b,C,h1,h2,h3,_⟩:=F.o12 (by simpa using h)
    have:=h3.lt
    rw [h1]
    simp <;> omega
  ·have p12:=F.o12 (he 12 (by kernel_rfl))
   have p5:=F.o5 (he 5 (by kernel_rfl))
   have hnb:D 13=true→x11≠x10:=fun h=>(F.ne (he 12 (by kernel_rfl)) h).symm
   have h0:=he 12 (by kernel_rfl)
   obtain ⟨b,C0,rfl,hb,k0,hC0,_⟩:=p12
   obtain ⟨C,rfl,hC⟩:=p5.pg
   refine wpOp_step rfl (fun K hK=>?_)
   have HK:=Hd hK
   clear hK
   refine step_store_pg rfl _ _ _ rfl k0 hC0 hC (by go_simp) (by go_simp) (by kernel_rfl) (fun W1 bt k1=>?_)
   try simp only [Act.put]
   exact HK.out _ _ ⟨_,_,_,_,_,_,_,_,_,_,_,_,_,_,rfl,F.s14 hb rfl h0 hnb k0 hC0 bt k1 hC p5⟩
  ·have p13:=F.o13 (he 13 (by kernel_rfl))
   have p11:=F.o11 (he 11 (by kernel_rfl))
   have hnb:D 12=true→x10≠x11:=fun h=>F.ne h (he 13 (by kernel_rfl))
   have h0:=he 13 (by kernel_rfl)
   obtain ⟨b,C0,rfl,hb,k0,hC0,_⟩:=p13
   obtain ⟨C,rfl,hC⟩:=p11.pg
   refine wpOp_step rfl (fun K hK=>?_)
   have HK:=Hd hK
   clear hK
   refine step_store_pg rfl _ _ _ rfl k0 hC0 hC (by go_simp) (by go_simp) (by kernel_rfl) (fun W1 bt k1=>?_)
   try simp only [Act.put]
   exact HK.out _ _ ⟨_,_,_,_,_,_,_,_,_,_,_,_,_,_,rfl,F.s15 hb rfl h0 hnb k0 hC0 bt k1 hC p11⟩
 ·intro D a w hall hI
  obtain ⟨x34,x35,x36,x37,x38,x39,x40,x41,x42,x43,x44,x45,x10,x11,rfl,F⟩:=hI
  have h12:=hall 12 (by decide)
  have h13:=hall 13 (by decide)
  obtain ⟨b10,C10,rfl,hb10,k10,q10,p10⟩:=F.o12 h12
  obtain ⟨b11,C11,rfl,hb11,k11,q11,p11⟩:=F.o13 h13
  exact HQ.out _ _ _ _ _ _ _ _ _ _ _ _ b10 b11 C10 C11 w F.up hb10 hb11 (fun e=>F.ne h12 h13 (by rw [e])) k10 q10 (p10 (hall 14 (by decide))) k11 q11 (p11 (hall 15 (by decide)))
end Go.Proofs.YtojmcmghmnfjeaaGreatDoor
