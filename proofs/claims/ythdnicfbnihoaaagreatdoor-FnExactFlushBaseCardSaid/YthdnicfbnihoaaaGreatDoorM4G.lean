/-
 Contracts of functions that compare slices.
 GetNode: both sides' contracts.
 Rows as lists of cells: an owned slice opened into its cells,and made of them. No program is named here.
 slices.Insert of one node,wherever there is room or not.
 Contracts of slices.Clone at flat elements.
-/
import Derived.Test.YthdnicfbnihoaaaGreatDoorRows
import Derived.Test.YthdnicfbnihoaaaGreatDoorM4E
import Derived.Test.YthdnicfbnihoaaaGreatDoorM4A
import Derived.StillTailTactics
import Derived.Test.YthdnicfbnihoaaaGreatDoorM4F
import Derived.BigQuiet
import Derived.Deep.QuietTactic
import Derived.Shelf.Spec.SlicesInsert
import Derived.Lib.AppendZerosOnto
import Derived.Lib.Overlaps
import Derived.OwnWalk
set_option maxHeartbeats 1000000
set_option maxRecDepth 100000
namespace Go.Proofs.YthdnicfbnihoaaaGreatDoor
open Go.RowKit
set_option linter.unusedSimpArgs false
set_option linter.unusedVariables false
theorem neq_Seat (a0 b0:Int) (a1 b1:Int) (W:World):(binOp .neq 125 (.agg #[.int .i64 a0,.int .i64 a1]) (.agg #[.int .i64 b0,.int .i64 b1])).run Tryz.prog W=.ok (.bool (decide (¬ ((a0,a1)=(b0,b1))))) W:=by
 have u_int64:=Tryz.underlying2
 have i_int64:=Tryz.isAgg2
 have s_int64:=Tryz.sizeOf2
 have hS:Tryz.prog.underlying 125=some (.struct (Tryz.prog.fieldsOf 125)):=by kernel_rfl
 have hp:Tryz.prog.stoodInHeld 125=false:=by kernel_rfl
 rw [run_neq_struct,show (10000:Nat)=9999+1 from rfl,run_equalIn_agg W 9999 125 _ _ hS hp]
 simp only [Program.fieldsOf,Tryz.underlying125]
 go_simp
 by_cases h0:a0=b0 <;> by_cases h1:a1=b1 <;> simp [h0,h1,str_inj]
theorem guard_Seat:Tryz.prog.eqGuardType Tryz.prog.depth 125=false:=by kernel_rfl
theorem c_slEqSeat (xs ys:List TSeat) (A B:Option Addr) (c d:Nat) (w:World) (h:SRW shSeat w A c xs) (k:SRW shSeat w B d ys) :
   Calls Tryz.prog 144 #[.slice A xs.length c,.slice B ys.length d] w (EqP (xs=ys) w):=by
 have hlen:=h.len_le
 have klen:=k.len_le
 by_cases hl:xs.length=ys.length
 · have hb:((xs.length:Int) != (ys.length:Int))=false:=by simp [hl]
   have HL:=Lib.hid hl;clear hl
   go_enter Tryz.func144,Tryz.ntmps144
   go_wp2
   go_loopw [13] (fun i wr=>∃k:Nat,k≤xs.length∧i=.int .i64 k∧Hid (xs.take k=ys.take k)∧Up w wr) (fun i _=>xs.length - (intOf i).toNat)
   case atStart=>exact ⟨0,Nat.zero_le _,rfl,rfl,Up.refl _⟩
   case round =>
     obtain ⟨j,hj,rfl,HT,hu⟩:=hrel
     by_cases hlt:j<xs.length
     · have hlt':j<ys.length:=by rw [← HL.out];exact hlt
       obtain ⟨g,off,rfl,_,_,hc0,hc1,b0,b1,_⟩:=atSeat (h.up good_Seat hu) hlt
       obtain ⟨g',off',rfl,_,_,hd0,hd1,f0,f1,_⟩:=atSeat (k.up good_Seat hu) hlt'
       have hgd:=guard_Seat
       by_cases he:xs[j]=ys[j]
       · have hx:∀W:World,(binOp .neq 125 (.agg #[.int .i64 xs[j].1,.int .i64 xs[j].2]) (.agg #[.int .i64 ys[j].1,.int .i64 ys[j].2])).run Tryz.prog W=.ok (.bool false) W:=fun W=>by rw [neq_Seat];simp [he]
         have HE:=Lib.hid he;clear he
         go_wp2
         go_quiet (fail)
         go_wp2
         go_roundw
         case rel=>exact ⟨j+1,by omega,by go_num,take_snoc_eq HT.out hlt hlt' HE.out,hu.drewN _⟩
         case measure=>simp [intOf];omega
       · have hx:∀W:World,(binOp .neq 125 (.agg #[.int .i64 xs[j].1,.int .i64 xs[j].2]) (.agg #[.int .i64 ys[j].1,.int .i64 ys[j].2])).run Tryz.prog W=.ok (.bool true) W:=fun W=>by rw [neq_Seat];simp [he]
         have HE:=Lib.hid (ne_of_at hlt hlt' he);clear he
         go_wp2
         go_quiet (fail)
         go_wp2
         go_ret
         exact EqP.f HE.out (hu.drewN _)
     · have HE:=Lib.hid (take_all_eq HT.out (by omega) (by rw [← HL.out];omega))
       go_wp2
       go_ret
       exact EqP.t HE.out hu
 · have hb:((xs.length:Int) != (ys.length:Int))=true:=by rw [bne_iff_ne];omega
   have HE:=Lib.hid (ne_of_len hl);clear hl
   go_enter Tryz.func144,Tryz.ntmps144
   go_wp2
   go_ret
   exact EqP.f HE.out (Up.refl _)
section
variable {α:Type} {s:Sh α} {w w':World} {lo hi lo' hi':Nat} {news olds:List Value} {xs ys:List α} {bs bls:List (List Nat)}
theorem Rowed.nil:Rowed s w lo hi [] ([]:List α) []:=⟨rfl,by simp,fun i h=>absurd h (by simp)⟩
theorem Rowed.append {n1 n2:List Value} {y1 y2:List α} {b1 b2:List (List Nat)} (h1:Rowed s w lo hi n1 y1 b1) (h2:Rowed s w lo hi n2 y2 b2):Rowed s w lo hi (n1++n2) (y1++y2) (b1++b2):=by
 obtain ⟨l1,m1,e1⟩:=h1
 obtain ⟨l2,m2,e2⟩:=h2
 refine ⟨by simp [l1,l2],by simp [m1,m2,Nat.add_mul],fun i hi=>?_⟩
 by_cases hk:i<y1.length
 · obtain ⟨cs,b,a1,a2,a3,a4⟩:=e1 i hk
   refine ⟨cs,b,by rw [List.getElem?_append_left (by omega)];exact a1,a2,fun j hj=>?_,by rw [List.getElem_append_left hk];exact a4⟩
   have:=Nat.mul_le_mul_right s.size (Nat.succ_le_of_lt hk)
   rw [Nat.succ_mul] at this
   rw [List.getElem?_append_left (by omega)]
   exact a3 j hj
 · have hk':i - y1.length<y2.length:=by simp at hi;omega
   obtain ⟨cs,b,a1,a2,a3,a4⟩:=e2 _ hk'
   refine ⟨cs,b,by rw [List.getElem?_append_right (by omega),l1];exact a1,a2,fun j hj=>?_,by rw [List.getElem_append_right (by omega)];exact a4⟩
   have hks:i*s.size=y1.length*s.size+(i - y1.length)*s.size:=by rw [← Nat.add_mul];congr 1;omega
   rw [List.getElem?_append_right (by omega),m1,show i*s.size+j - y1.length*s.size=(i - y1.length)*s.size+j by omega]
   exact a3 j hj
theorem Rowed.take (h:Rowed s w lo hi news ys bs) {k:Nat} (hk:k≤ys.length):Rowed s w lo hi (news.take (k*s.size)) (ys.take k) (bs.take k):=by
 obtain ⟨l,m,e⟩:=h
 have hm:=Nat.mul_le_mul_right s.size hk
 refine ⟨by simp [l],by rw [List.length_take,m,List.length_take,Nat.min_eq_left hk];omega,fun i hi=>?_⟩
 have hi':i<k∧i<ys.length:=by rw [List.length_take] at hi;omega
 obtain ⟨cs,b,a1,a2,a3,a4⟩:=e i hi'.2
 refine ⟨cs,b,by rw [List.getElem?_take_of_lt hi'.1];exact a1,a2,fun j hj=>?_,by simpa using a4⟩
 have:=Nat.mul_le_mul_right s.size (Nat.succ_le_of_lt hi'.1)
 rw [Nat.succ_mul] at this
 rw [List.getElem?_take_of_lt (by omega)]
 exact a3 j hj
theorem Rowed.drop (h:Rowed s w lo hi news ys bs) (k:Nat):Rowed s w lo hi (news.drop (k*s.size)) (ys.drop k) (bs.drop k):=by
 obtain ⟨l,m,e⟩:=h
 refine ⟨by simp [l],by simp [m,Nat.sub_mul],fun i hi=>?_⟩
 have hi':k+i<ys.length:=by simp at hi;omega
 obtain ⟨cs,b,a1,a2,a3,a4⟩:=e (k+i) hi'
 refine ⟨cs,b,by rw [List.getElem?_drop];exact a1,a2,fun j hj=>?_,by simpa using a4⟩
 rw [List.getElem?_drop,← a3 j hj,Nat.add_mul]
 congr 1
 omega
theorem Rowed.keep (hg:Good s) (h:Rowed s w lo hi news ys bs) (k:∀y∈bs.flatten,w'.heap[y]?=w.heap[y]?):Rowed s w' lo hi news ys bs:=by
 refine ⟨h.1,h.2.1,fun i hi=>?_⟩
 obtain ⟨cs,b,a1,a2,a3,a4⟩:=h.2.2 i hi
 exact ⟨cs,b,a1,a2,a3,hg.own_keep a4 fun y hy=>k y (List.mem_flatten.2 ⟨b,List.mem_of_getElem? a1,hy⟩)⟩
theorem Rowed.wide (hg:Good s) (h:Rowed s w lo hi news ys bs) (k:lo'≤lo) (l:hi≤hi'):Rowed s w lo' hi' news ys bs:=by
 refine ⟨h.1,h.2.1,fun i hi=>?_⟩
 obtain ⟨cs,b,a1,a2,a3,a4⟩:=h.2.2 i hi
 exact ⟨cs,b,a1,a2,a3,hg.own_wide a4 k l⟩
theorem Rowed.in_ (hg:Good s) (h:Rowed s w lo hi news ys bs):∀y∈bs.flatten,lo≤y∧y<hi:=fun y hy=>by
 obtain ⟨l,hl,hyl⟩:=List.mem_flatten.1 hy
 obtain ⟨q,hq,rfl⟩:=List.getElem_of_mem hl
 obtain ⟨cs,b,e1,_,_,e4⟩:=h.2.2 q (by rw [← h.1];exact hq)
 rw [List.getElem?_eq_getElem hq] at e1
 injection e1 with e1
 subst e1
 exact hg.own_in e4 y hyl
theorem SO.row {A:Option Addr} {c:Nat} {bl:List Nat} (h:SO s w lo hi A c xs bl):(xs=[]∧bl=[]∧c=0)∨∃(g off:Nat) (C:Array Value) (tid:TypeId) (bls:List (List Nat)) (olds:List Value),A=some ⟨g,off,none⟩∧lo≤g∧g<hi∧Bk w g tid C∧off+c*s.size≤C.size∧bl=g::bls.flatten ∧
   Rowed s w lo hi olds xs bls∧∀j,j<olds.length→C[off+j]?=olds[j]?:=by
 rcases h.2.2 with h0 | ⟨g,off,C,tid,bls,rfl,h1,h2,hh,hcap,rfl,hbl,h3⟩
 · exact .inl h0
 · refine .inr ⟨g,off,C,tid,bls,(C.toList.drop off).take (xs.length*s.size),rfl,h1,h2,hh,hcap,rfl,⟨hbl,?_,fun k hk=>?_⟩,fun j hj=>?_⟩
   · have:=Nat.le_trans (Nat.add_le_add_left (Nat.mul_le_mul_right s.size h.1) off) hcap
     simp
     omega
   · obtain ⟨cs,b,e1,e2,e3,e4⟩:=h3 k hk
     refine ⟨cs,b,e1,e2,fun j hj=>?_,e4⟩
     have:=Nat.mul_le_mul_right s.size (Nat.succ_le_of_lt hk)
     rw [Nat.succ_mul] at this
     rw [List.getElem?_take_of_lt (by omega),List.getElem?_drop,← e3 j hj]
     simp
   · simp at hj
     rw [List.getElem?_take_of_lt (by omega),List.getElem?_drop]
     simp
end
def rowP {α:Type} (s:Sh α) (w:World) (lo:Nat) (xs:List α) (bl b:List Nat) (D:Option Addr) (d:Nat) (bl':List Nat) (w':World):Prop :=
 SO s w' lo w'.heap.size D d xs bl'∧bl'.Nodup∧(∀y∈bl',y∈bl++b∨w.heap.size≤y)∧Only bl w w'
def RowR {α:Type} (s:Sh α) (w:World) (lo:Nat) (xs:List α) (bl b:List Nat) (e:Ending) (w':World):Prop :=
 ∃D d bl',e=.returned (.slice D xs.length d)∧rowP s w lo xs bl b D d bl' w'
theorem RowR.mk {α:Type} {s:Sh α} {w:World} {lo:Nat} {xs:List α} {bl b:List Nat} {w':World} {D:Option Addr} {d n:Nat} (bl':List Nat) (hn:xs.length=n) (h:rowP s w lo xs bl b D d bl' w'):RowR s w lo xs bl b (.returned (.slice D n d)) w':=⟨D,d,bl',by rw [hn],h⟩
theorem flat_Put:Flat shPut:=flat_P flat_I flat_S
theorem cinfo_StringS:(Tryz.prog.info? 9).map (fun i=>(i.zero,i.size,i.bytes))=some (some (.string ⟨#[]⟩),1,16):=by kernel_rfl
theorem c_CloneStringS (xs:List ByteArray) (A:Option Addr) (c:Nat) (w:World) (h:SRW shS w A c xs) (hn:xs.length≤1048576) :
   Calls Tryz.prog 145 #[.slice A xs.length c] w (ToL shS xs w):=by
 obtain ⟨i0,hi0,hz0,hz1,hz2⟩:=info_parts cinfo_StringS
 cases A with
 | none =>
   obtain rfl:xs=[]:=by
     rcases Nat.eq_zero_or_pos xs.length with h0 | hp
     · exact List.eq_nil_of_length_eq_zero h0
     · obtain ⟨g,off,hA,_⟩:=h.2.2 hp;cases hA
   have he:∀W:World,(binOp .eql 25 (.slice none 0 c) (.slice none 0 0)).run Tryz.prog W=.ok (.bool true) W:=fun _=>rfl
   go_enter Tryz.func145,Tryz.ntmps145
   go_wp2_with fail
   go_ret
   exact ⟨none,0,[],rfl,SO.nil _ _ _,by simp,Up.refl _⟩
 | some ad =>
   have he:∀W:World,(binOp .eql 25 (.slice (some ad) xs.length c) (.slice none 0 0)).run Tryz.prog W=.ok (.bool false) W:=fun _=>rfl
   go_enter Tryz.func145,Tryz.ntmps145
   go_wp2_with (first
     | (at_builtin
        refine wpList_app_new good_S flat_S rfl _ _ _ 9 rfl i0 _ Tryz.underlying25 hi0 hz0 hz1 (by rfl) rfl rfl (h.up good_S ((Up.refl w).alloc _)) (by rw [hz2];omega) ?_
        intro D d bl w1 hso hnd hu))
   go_ret
   exact ⟨D,d,bl,rfl,hso.wide good_S (by simp) (Nat.le_refl _),hnd,((Up.refl w).alloc _).trans hu⟩
theorem cinfo_PutS:(Tryz.prog.info? 151).map (fun i=>(i.zero,i.size,i.bytes))=some (some (.agg #[.int .i64 0,.string ⟨#[]⟩]),2,24):=by kernel_rfl
theorem c_ClonePutS (xs:List TPut) (A:Option Addr) (c:Nat) (w:World) (h:SRW shPut w A c xs) (hn:xs.length≤1048576) :
   Calls Tryz.prog 146 #[.slice A xs.length c] w (ToL shPut xs w):=by
 obtain ⟨i0,hi0,hz0,hz1,hz2⟩:=info_parts cinfo_PutS
 cases A with
 | none =>
   obtain rfl:xs=[]:=by
     rcases Nat.eq_zero_or_pos xs.length with h0 | hp
     · exact List.eq_nil_of_length_eq_zero h0
     · obtain ⟨g,off,hA,_⟩:=h.2.2 hp;cases hA
   have he:∀W:World,(binOp .eql 43 (.slice none 0 c) (.slice none 0 0)).run Tryz.prog W=.ok (.bool true) W:=fun _=>rfl
   go_enter Tryz.func146,Tryz.ntmps146
   go_wp2_with fail
   go_ret
   exact ⟨none,0,[],rfl,SO.nil _ _ _,by simp,Up.refl _⟩
 | some ad =>
   have he:∀W:World,(binOp .eql 43 (.slice (some ad) xs.length c) (.slice none 0 0)).run Tryz.prog W=.ok (.bool false) W:=fun _=>rfl
   go_enter Tryz.func146,Tryz.ntmps146
   go_wp2_with (first
     | (at_builtin
        refine wpList_app_new good_Put flat_Put rfl _ _ _ 151 rfl i0 _ Tryz.underlying43 hi0 hz0 hz1 (by rfl) rfl rfl (h.up good_Put ((Up.refl w).alloc _)) (by rw [hz2];omega) ?_
        intro D d bl w1 hso hnd hu))
   go_ret
   exact ⟨D,d,bl,rfl,hso.wide good_Put (by simp) (Nat.le_refl _),hnd,((Up.refl w).alloc _).trans hu⟩
end Go.Proofs.YthdnicfbnihoaaaGreatDoor
