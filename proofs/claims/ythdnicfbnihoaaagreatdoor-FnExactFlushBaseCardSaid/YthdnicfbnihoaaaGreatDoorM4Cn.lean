/-
 slices.Grow and slices.Concat at seats;small questions about seats.
-/
import Derived.Test.YthdnicfbnihoaaaGreatDoorM4To
import Derived.Test.YthdnicfbnihoaaaGreatDoorM4A
import Derived.Test.YthdnicfbnihoaaaGreatDoorM4Ri
import Derived.Test.YthdnicfbnihoaaaGreatDoorM4G
import Derived.Lib.AppendZeros
set_option maxHeartbeats 8000000
set_option maxRecDepth 100000
namespace Go.Proofs.YthdnicfbnihoaaaGreatDoor
open Go.RowKit
set_option linter.unusedVariables false
set_option linter.unusedSimpArgs false
theorem flat_Seat:Flat shSeat:=flat_P flat_I flat_I
theorem cinfo_SeatS:(Tryz.prog.info? 125).map (fun i=>(i.zero,i.size,i.bytes))=some (some (.agg #[.int .i64 0,.int .i64 0]),2,16):=by kernel_rfl
theorem c_GrowSeat (n:Nat) (w:World) (hn:n≤10000000):Calls Tryz.prog 140 #[.slice none 0 0,.int .i64 (n:Int)] w fun e w'=>∃D d bl,e=.returned (.slice D 0 d)∧SO shSeat w' w.heap.size w'.heap.size D d [] bl∧bl.Nodup∧Up w w':=by
 obtain ⟨i2,hi2,hz0,hz1,hz2⟩:=info_parts cinfo_SeatS
 rcases Nat.eq_zero_or_pos n with h0 | h0
 · subst h0
   go_enter Tryz.func140,Tryz.ntmps140
   go_wp2_with fail
   go_ret
   exact ⟨none,0,[],rfl,SO.nil _ _ _,by simp,Up.refl _⟩
 · have hr:∀ty,(Builtin.append_ #[46,3] ty #[.slice none 0 0,.int .i64 (n:Int)]).run Tryz.prog w=_:=fun ty=>Lib.run_append_nil_zeros (P:=Tryz.prog) w 46 3 ty 125 i2 _ .i64 .i64 Tryz.underlying46 Tryz.underlying3 hi2 hz0 n h0 (by rw [hz1];omega) (by omega) (by rw [hz2];omega)
   have hge:=grownCap_ge w n 0 125
   have hcm:grownCap w n 0 125≤maxLen:=grownCap_le_maxLen w n 0 _ (by unfold maxLen;omega)
   have hcm':=hcm
   unfold maxLen at hcm'
   have hpos:(0:Int)<(n:Int):=by omega
   have hu:Up w (w.drew.alloc (.cells (Builtin.zeroCells (Value.cells (.agg #[.int .i64 0,.int .i64 0])) n++Builtin.zeroCells (Value.cells (.agg #[.int .i64 0,.int .i64 0])) (grownCap w n 0 125 - n)) 125)):=(Up.refl w).drew.alloc _
   have hso:SO shSeat (w.drew.alloc (.cells (Builtin.zeroCells (Value.cells (.agg #[.int .i64 0,.int .i64 0])) n++Builtin.zeroCells (Value.cells (.agg #[.int .i64 0,.int .i64 0])) (grownCap w n 0 125 - n)) 125)) w.heap.size (w.drew.alloc (.cells (Builtin.zeroCells (Value.cells (.agg #[.int .i64 0,.int .i64 0])) n++Builtin.zeroCells (Value.cells (.agg #[.int .i64 0,.int .i64 0])) (grownCap w n 0 125 - n)) 125)).heap.size (some ⟨w.heap.size,0,none⟩) (grownCap w n 0 125) [] [w.heap.size]:=by
     refine ⟨Nat.zero_le _,hcm,.inr ⟨w.heap.size,0,_,125,[],rfl,Nat.le_refl _,by simp,heap_alloc_new w.drew _,?_,rfl,rfl,fun i hi=>absurd hi (by simp)⟩⟩
     rw [Array.size_append,size_zeroCells,size_zeroCells,← Nat.add_mul,Nat.zero_add]
     exact Nat.mul_le_mul (by omega) (by decide)
   obtain ⟨W,hW⟩:∃W,W=w.drew.alloc (.cells (Builtin.zeroCells (Value.cells (.agg #[.int .i64 0,.int .i64 0])) n++Builtin.zeroCells (Value.cells (.agg #[.int .i64 0,.int .i64 0])) (grownCap w n 0 125 - n)) 125):=⟨_,rfl⟩
   rw [← hW] at hr hu hso
   clear hW
   obtain ⟨G,hG⟩:∃G,G=grownCap w n 0 125:=⟨_,rfl⟩
   rw [← hG] at hr hso hcm' hge
   clear hG hcm
   go_enter Tryz.func140,Tryz.ntmps140
   go_wp2_with (first | (at_builtin;refine Lib.wpList_append_run _ rfl _ _ _ _ rfl _ _ rfl rfl _ _ (hr _) ?_))
   go_ret
   exact ⟨some ⟨w.heap.size,0,none⟩,G,[w.heap.size],rfl,hso,by simp,hu⟩
theorem src_flat {α:Type} {s:Sh α} (hg:Good s) (hf:Flat s) {P:Program} {W:World} {lo:Nat} {t e:TypeId} (ht:P.underlying t=some (.slice e)) {n:Nat} (hn:n=s.size) {A:Option Addr} {c:Nat} {xs:List α} (h:SRW s W A c xs) :
   ∃news,Src P n t (.slice A xs.length c) xs.length news W∧Rowed s W lo W.heap.size news xs (List.replicate xs.length []):=by
 rcases Nat.eq_zero_or_pos xs.length with h0 | hp
 · obtain rfl:=List.eq_nil_of_length_eq_zero h0
   refine ⟨[],?_,⟨rfl,by simp,fun i hi=>absurd hi (by simp)⟩⟩
   cases A with
   | none=>exact Src.ofNil W ht c
   | some a=>exact Src.ofSlice W ht a 0 c [] (by simp) (fun j u hu=>by simp at hu) (by simp)
 · obtain ⟨g,off,rfl,_,_,h3⟩:=h.2.2 hp
   obtain ⟨news,hr,hc⟩:=Rowed.flat (lo:=lo) (hi:=W.heap.size) hg hf h3
   exact ⟨news,Src.ofSlice W ht _ _ _ news (by rw [hr.2.1,hn]) hc (hr.ones hg),hr⟩
theorem flat_nil (n:Nat):(List.replicate n ([]:List Nat)).flatten=[]:=by induction n with
 | zero=>rfl
 | succ n ih=>simp [List.replicate_succ]
theorem c_Concat3Seat (xs ys zs:List TSeat) (A1 A2 A3:Option Addr) (c1 c2 c3 B:Nat) (t:TypeId) (w:World) (h1:SRW shSeat w A1 c1 xs) (h2:SRW shSeat w A2 c2 ys) (h3:SRW shSeat w A3 c3 zs) (hB:Bk w B t #[.slice A1 xs.length c1,.slice A2 ys.length c2,.slice A3 zs.length c3])
   (n1:xs.length≤1048576) (n2:ys.length≤1048576) (n3:zs.length≤1048576) :
   Calls Tryz.prog 97 #[.slice (some ⟨B,0,none⟩) 3 3] w (ToL shSeat (xs++ys++zs) w):=by
 obtain ⟨i2,hi2,hz0,hz1,hz2⟩:=info_parts cinfo_SeatS
 have g0:w.cell? ⟨B,0,none⟩=some (.slice A1 xs.length c1):=hB.cell 0
 have g1:w.cell? ⟨B,1,none⟩=some (.slice A2 ys.length c2):=hB.cell 1
 have g2:w.cell? ⟨B,2,none⟩=some (.slice A3 zs.length c3):=hB.cell 2
 go_enter Tryz.func97,Tryz.ntmps97
 go_wp2_with fail
 go_loopw [3,11] (fun s i wr=>w=wr∧((s=.int .i64 0∧i=.int .i64 0)∨(s=.int .i64 xs.length∧i=.int .i64 1)∨(s=.int .i64 ((xs.length:Int)+ys.length)∧i=.int .i64 2)∨(s=.int .i64 ((xs.length:Int)+ys.length+zs.length)∧i=.int .i64 3))) (fun _ i _=>3 - (intOf i).toNat)
 case atStart=>exact ⟨by first | trivial | rfl,.inl ⟨rfl,rfl⟩⟩
 case round =>
   obtain ⟨rfl,hc⟩:=hrel
   rcases hc with ⟨rfl,rfl⟩ | ⟨rfl,rfl⟩ | ⟨rfl,rfl⟩ | ⟨rfl,rfl⟩
   · have hq:¬ ((xs.length:Int)<0):=by omega
     go_wp2_with fail
     go_roundw
     case rel=>exact ⟨by first | trivial | rfl,.inr (.inl ⟨by go_num,rfl⟩)⟩
     case measure=>simp [intOf]
   · have hq:¬ ((xs.length:Int)+ys.length<0):=by omega
     go_wp2_with fail
     go_roundw
     case rel=>exact ⟨by first | trivial | rfl,.inr (.inr (.inl ⟨by go_num,rfl⟩))⟩
     case measure=>simp [intOf]
   · have hq:¬ ((xs.length:Int)+ys.length+zs.length<0):=by omega
     go_wp2_with fail
     go_roundw
     case rel=>exact ⟨by first | trivial | rfl,.inr (.inr (.inr ⟨by go_num,rfl⟩))⟩
     case measure=>simp [intOf]
   · have hs : ((xs.length:Int)+ys.length+zs.length)=((xs.length+ys.length+zs.length:Nat):Int):=by omega
     rw [hs]
     clear hs
     go_wp2_with fail
     refine (c_GrowSeat (xs.length+ys.length+zs.length) _ (by omega)).mono ?_
     rintro e w1 ⟨D,d,bl,rfl,so,nd,u1⟩
     have kB:=hB.up u1
     go_wp2_with fail
     go_loopw [6,27] (fun v i wr=>∃(done:List TSeat) (D:Option Addr) (d:Nat) (bl:List Nat),v=.slice D done.length d∧SO shSeat wr w.heap.size wr.heap.size D d done bl∧bl.Nodup∧Up w wr∧(([]=done∧i=.int .i64 0)∨(xs=done∧i=.int .i64 1)∨(xs++ys=done∧i=.int .i64 2)∨(xs++ys++zs=done∧i=.int .i64 3))) (fun _ i _=>3 - (intOf i).toNat)
     case atStart=>exact ⟨[],D,d,bl,rfl,so,nd,u1,.inl ⟨rfl,rfl⟩⟩
     case round =>
       clear so nd u1 kB
       obtain ⟨done,D,d,bl,rfl,so,nd,uq,hc⟩:=hrel
       have kq:=hB.up uq
       have hlo:=uq.size
       rcases hc with ⟨hd,rfl⟩ | ⟨hd,rfl⟩ | ⟨hd,rfl⟩ | ⟨rfl,rfl⟩
       · have hdl:done.length≤2097152:=by rw [← hd];simp
         have HD:=Lib.hid hd;clear hd
         have gq:wr.cell? ⟨B,0,none⟩=some (.slice A1 xs.length c1):=kq.cell 0
         obtain ⟨news,hsrc,hrow⟩:=src_flat (lo:=w.heap.size) good_Seat flat_Seat (P:=Tryz.prog) (W:=wr) (n:=i2.size) Tryz.underlying46 hz1 (h1.up good_Seat uq)
         have hbb:(done.length+xs.length)*i2.bytes≤140737488355328:=by rw [hz2];omega
         have hmm:done.length+xs.length≤maxLen:=by unfold maxLen;omega
         go_wp2_with (first
           | (at_builtin
              refine wpList_app good_Seat rfl _ _ _ _ 125 rfl i2 _ Tryz.underlying46 hi2 hz0 hz1 (by rfl) (lo:=w.heap.size) (xs:=done) (ys:=xs) (bl:=bl) (bs:=List.replicate xs.length []) (news:=news) rfl rfl so (by rw [flat_nil];simpa using nd) hsrc hrow hlo hbb hmm ?_
              intro D2 d2 bl2 w2 hap
              obtain ⟨so2,nd2,mem2,on2⟩:=hap))
         go_roundw
         case rel=>exact ⟨done++xs,D2,d2,bl2,by rw [List.length_append],so2,nd2,uq.only on2 (fun y hy=>(so.in_ good_Seat y hy).1),.inr (.inl ⟨by rw [← HD.out];simp,rfl⟩)⟩
         case measure=>simp [intOf]
       · have hdl:done.length≤2097152:=by rw [← hd];(try simp);omega
         have HD:=Lib.hid hd;clear hd
         have gq:wr.cell? ⟨B,1,none⟩=some (.slice A2 ys.length c2):=kq.cell 1
         obtain ⟨news,hsrc,hrow⟩:=src_flat (lo:=w.heap.size) good_Seat flat_Seat (P:=Tryz.prog) (W:=wr) (n:=i2.size) Tryz.underlying46 hz1 (h2.up good_Seat uq)
         have hbb:(done.length+ys.length)*i2.bytes≤140737488355328:=by rw [hz2];omega
         have hmm:done.length+ys.length≤maxLen:=by unfold maxLen;omega
         go_wp2_with (first
           | (at_builtin
              refine wpList_app good_Seat rfl _ _ _ _ 125 rfl i2 _ Tryz.underlying46 hi2 hz0 hz1 (by rfl) (lo:=w.heap.size) (xs:=done) (ys:=ys) (bl:=bl) (bs:=List.replicate ys.length []) (news:=news) rfl rfl so (by rw [flat_nil];simpa using nd) hsrc hrow hlo hbb hmm ?_
              intro D2 d2 bl2 w2 hap
              obtain ⟨so2,nd2,mem2,on2⟩:=hap))
         go_roundw
         case rel=>exact ⟨done++ys,D2,d2,bl2,by rw [List.length_append],so2,nd2,uq.only on2 (fun y hy=>(so.in_ good_Seat y hy).1),.inr (.inr (.inl ⟨by rw [← HD.out],rfl⟩))⟩
         case measure=>simp [intOf]
       · have hdl:done.length≤2097152:=by rw [← hd];(try simp);omega
         have HD:=Lib.hid hd;clear hd
         have gq:wr.cell? ⟨B,2,none⟩=some (.slice A3 zs.length c3):=kq.cell 2
         obtain ⟨news,hsrc,hrow⟩:=src_flat (lo:=w.heap.size) good_Seat flat_Seat (P:=Tryz.prog) (W:=wr) (n:=i2.size) Tryz.underlying46 hz1 (h3.up good_Seat uq)
         have hbb:(done.length+zs.length)*i2.bytes≤140737488355328:=by rw [hz2];omega
         have hmm:done.length+zs.length≤maxLen:=by unfold maxLen;omega
         go_wp2_with (first
           | (at_builtin
              refine wpList_app good_Seat rfl _ _ _ _ 125 rfl i2 _ Tryz.underlying46 hi2 hz0 hz1 (by rfl) (lo:=w.heap.size) (xs:=done) (ys:=zs) (bl:=bl) (bs:=List.replicate zs.length []) (news:=news) rfl rfl so (by rw [flat_nil];simpa using nd) hsrc hrow hlo hbb hmm ?_
              intro D2 d2 bl2 w2 hap
              obtain ⟨so2,nd2,mem2,on2⟩:=hap))
         go_roundw
         case rel=>exact ⟨done++zs,D2,d2,bl2,by rw [List.length_append],so2,nd2,uq.only on2 (fun y hy=>(so.in_ good_Seat y hy).1),.inr (.inr (.inr ⟨by rw [← HD.out],rfl⟩))⟩
         case measure=>simp [intOf]
       · go_wp2_with fail
         go_ret
         exact ⟨D,d,bl,rfl,so,nd,uq⟩
/-! ### Questions about seats -/
def hasS (l:List TSeat) (n:Int):Bool:=l.any (fun s=>s.2 == n)
def zeroT (t:TTop):Bool:=(t.1 == 0) && (t.2.1 == 0) && (t.2.2.1 == 0) && t.2.2.2.isEmpty
theorem c_hasSlot1 (B:Nat) (v:Value) (s:TSeat) (n:Int) (w:World) (h:AV shSeat w v s) (hB:w.cell? ⟨B,0,none⟩=some (.int .i64 n)):Calls Tryz.prog 142 #[v,.pointer (some ⟨B,0,none⟩)] w (BoolP (s.2 == n) w):=by
 obtain ⟨cs,rfl,h⟩:=h
 obtain ⟨s0,s1⟩:=s
 have ho:=openSeat h
 dsimp only at ho ⊢
 obtain ⟨rfl,b0,b1⟩:=ho
 have hBl:=cell_lt hB
 go_enter Tryz.func142,Tryz.ntmps142
 go_wp2_with fail
 go_ret
 exact ⟨rfl,(Up.refl _).alloc _⟩
theorem eg_hasSlot1:∀args w,(callFunc 142 args).run Tryz.prog w=.ok (.enter 142 args) w:=enters_of Tryz.func142 (by kernel_rfl) rfl
theorem c_hasSlot (xs:List TSeat) (A:Option Addr) (c:Nat) (n:Int) (w:World) (h:SRW shSeat w A c xs):Calls Tryz.prog 101 #[.slice A xs.length c,.int .i64 n] w (BoolP (hasS xs n) w):=by
 have u0:Up w (w.alloc (.cells #[.int .i64 n] 2)):=(Up.refl _).alloc _
 have k1:Bk (w.alloc (.cells #[.int .i64 n] 2)) w.heap.size 2 #[.int .i64 n]:=Bk.new _ _ _
 have hf:∀(W:World) (v:Value) (s:TSeat),s∈xs→Up (w.alloc (.cells #[.int .i64 n] 2)) W→AV shSeat W v s→Calls Tryz.prog 142 (#[v]++#[.pointer (some ⟨w.heap.size,0,none⟩)]) W (BoolP (s.2 == n) W):=fun W v s _ hW hav=>by
   rw [app_two]
   exact c_hasSlot1 _ v s n W hav ((k1.up hW).cell 0)
 go_enter Tryz.func101,Tryz.ntmps101
 go_wp2_with fail
 refine (c_ContainsFuncSeat 142 _ eg_hasSlot1 (fun s=>s.2 == n) _ _ xs _ (h.up good_Seat u0) hf).mono ?_
 rintro e w1 ⟨rfl,u1⟩
 go_wp2_with fail
 go_ret
 exact ⟨rfl,u0.trans u1⟩
theorem c_l18Uses (xs:List TSeat) (A:Option Addr) (c:Nat) (n:Int) (w:World) (h:SRW shSeat w A c xs):Calls Tryz.prog 81 #[.slice A xs.length c,.int .i64 n] w (BoolP (hasS xs n) w):=by
 have hlen:=h.len_le
 go_enter Tryz.func81,Tryz.ntmps81
 go_wp2_with fail
 go_loopw [5] (fun i wr=>∃k:Nat,k≤xs.length∧i=.int .i64 k∧Hid ((xs.take k).any (fun s=>s.2 == n)=false)∧Up w wr) (fun i _=>xs.length - (intOf i).toNat)
 case atStart=>exact ⟨0,Nat.zero_le _,rfl,rfl,Up.refl _⟩
 case round =>
   obtain ⟨k,hk,rfl,HT,hu⟩:=hrel
   by_cases hlt:k<xs.length
   · obtain ⟨g,off,rfl,_,hgl,hc0,hc1,e0,e1,_⟩:=atSeat (h.up good_Seat hu) hlt
     cases hq:(xs[k].2 == n)
     · have HN:Hid ((xs.take (k+1)).any (fun s=>s.2 == n)=false):=by unfold Hid;rw [any_take_succ _ xs k hlt,HT.out,hq];rfl
       go_wp2_with fail
       go_roundw
       case rel=>exact ⟨k+1,by omega,by go_num,HN,hu⟩
       case measure=>simp [intOf];omega
     · have HN:Hid (hasS xs n=true):=any_at (fun s:TSeat=>s.2 == n) xs k hlt hq
       go_wp2_with fail
       go_ret
       exact bool_end HN hu
   · have HN:Hid (hasS xs n=false):=any_all _ xs k HT.out (by omega)
     go_wp2_with fail
     go_ret
     exact bool_end HN hu
def belowS (l:List TSeat) (n:Int):Bool:=!l.any (fun s=>decide (n≤s.2))
theorem c_l18Below (xs:List TSeat) (A:Option Addr) (c:Nat) (n:Int) (w:World) (h:SRW shSeat w A c xs):Calls Tryz.prog 82 #[.slice A xs.length c,.int .i64 n] w (BoolP (belowS xs n) w):=by
 have hlen:=h.len_le
 go_enter Tryz.func82,Tryz.ntmps82
 go_wp2_with fail
 go_loopw [5] (fun i wr=>∃k:Nat,k≤xs.length∧i=.int .i64 k∧Hid ((xs.take k).any (fun s=>decide (n≤s.2))=false)∧Up w wr) (fun i _=>xs.length - (intOf i).toNat)
 case atStart=>exact ⟨0,Nat.zero_le _,rfl,rfl,Up.refl _⟩
 case round =>
   obtain ⟨k,hk,rfl,HT,hu⟩:=hrel
   by_cases hlt:k<xs.length
   · obtain ⟨g,off,rfl,_,hgl,hc0,hc1,e0,e1,_⟩:=atSeat (h.up good_Seat hu) hlt
     by_cases hq:n≤xs[k].2
     · have HN:Hid (belowS xs n=false):=by unfold Hid belowS;rw [any_at (fun s:TSeat=>decide (n≤s.2)) xs k hlt (by simpa using hq)];rfl
       go_wp2_with fail
       go_ret
       exact bool_end HN hu
     · have HN:Hid ((xs.take (k+1)).any (fun s=>decide (n≤s.2))=false):=by unfold Hid;rw [any_take_succ _ xs k hlt,HT.out];simpa using hq
       have hq':decide (n≤xs[k].2)=false:=by simpa using hq
       go_wp2_with fail
       go_roundw
       case rel=>exact ⟨k+1,by omega,by go_num,HN,hu⟩
       case measure=>simp [intOf];omega
   · have HN:Hid (belowS xs n=true):=by unfold Hid belowS;rw [any_all _ xs k HT.out (by omega)];rfl
     go_wp2_with fail
     go_ret
     exact bool_end HN hu
theorem c_l18Zero (v:Value) (x:TTop) (w:World) (h:AV shTop w v x):Calls Tryz.prog 40 #[v] w (BoolP (zeroT x) w):=by
 obtain ⟨cs,rfl,h⟩:=h
 obtain ⟨x0,x1,x2,x3⟩:=x
 have ho:=openTop h
 dsimp only at ho
 obtain ⟨A3,c3,rfl,b0,b1,b2,b3⟩:=ho
 have hl:=b3.len_le
 have u0:Up w (w.alloc (.cells #[.int .i64 x0,.int .i64 x1,.int .i64 x2,.slice A3 x3.length c3] 48)):=(Up.refl _).alloc _
 have he:x3.isEmpty=((x3.length:Int) == 0):=by cases x3 <;> simp <;> omega
 have HN:Hid (zeroT (x0,x1,x2,x3)=((x0 == 0) && (x1 == 0) && (x2 == 0) && ((x3.length:Int) == 0))):=by unfold Hid zeroT;rw [← he]
 clear he
 cases q0:(x0 == 0)
 · rw [q0] at HN
   go_enter Tryz.func40,Tryz.ntmps40
   go_wp2_with fail
   go_ret
   exact bool_end HN u0
 cases q1:(x1 == 0)
 · rw [q0,q1] at HN
   go_enter Tryz.func40,Tryz.ntmps40
   go_wp2_with fail
   go_ret
   exact bool_end HN u0
 cases q2:(x2 == 0)
 · rw [q0,q1,q2] at HN
   go_enter Tryz.func40,Tryz.ntmps40
   go_wp2_with fail
   go_ret
   exact bool_end HN u0
 rw [q0,q1,q2] at HN
 go_enter Tryz.func40,Tryz.ntmps40
 go_wp2_with fail
 go_ret
 exact bool_end HN u0
theorem c_sameTop (v u:Value) (x y:TTop) (w:World) (h:AV shTop w v x) (k:AV shTop w u y) :
   Calls Tryz.prog 105 #[v,u] w (EqP (x=y) w):=by
 obtain ⟨cs,rfl,h⟩:=h
 obtain ⟨x0,x1,x2,x3⟩:=x
 have ho:=openTop h
 try dsimp only at ho
 obtain ⟨A3,c3,rfl,b0,b1,b2,b3⟩:=ho
 obtain ⟨ds,rfl,k⟩:=k
 obtain ⟨y0,y1,y2,y3⟩:=y
 have ko:=openTop k
 try dsimp only at ko
 obtain ⟨B3,d3,rfl,e0,e1,e2,e3⟩:=ko
 have kx0:Bk ((w.alloc (.cells #[.int .i64 x0,.int .i64 x1,.int .i64 x2,.slice A3 x3.length c3] 48)).alloc (.cells #[.int .i64 y0,.int .i64 y1,.int .i64 y2,.slice B3 y3.length d3] 48)) w.heap.size 48 #[.int .i64 x0,.int .i64 x1,.int .i64 x2,.slice A3 x3.length c3]:=(Bk.new _ _ _).alloc _
 have ky0:Bk ((w.alloc (.cells #[.int .i64 x0,.int .i64 x1,.int .i64 x2,.slice A3 x3.length c3] 48)).alloc (.cells #[.int .i64 y0,.int .i64 y1,.int .i64 y2,.slice B3 y3.length d3] 48)) (w.heap.size+1) 48 #[.int .i64 y0,.int .i64 y1,.int .i64 y2,.slice B3 y3.length d3]:=by simpa using Bk.new (w.alloc (.cells #[.int .i64 x0,.int .i64 x1,.int .i64 x2,.slice A3 x3.length c3] 48)) 48 #[.int .i64 y0,.int .i64 y1,.int .i64 y2,.slice B3 y3.length d3]
 have uu0:Up w ((w.alloc (.cells #[.int .i64 x0,.int .i64 x1,.int .i64 x2,.slice A3 x3.length c3] 48)).alloc (.cells #[.int .i64 y0,.int .i64 y1,.int .i64 y2,.slice B3 y3.length d3] 48)):=((Up.refl _).alloc _).alloc _
 by_cases e_0:¬ x0=y0
 · have hx:(x0 == y0)=false:=by simp [e_0]
   have HE:Hid (¬ (x0,x1,x2,x3)=(y0,y1,y2,y3)):=by unfold Hid;intro hh;(try simp only [Prod.mk.injEq] at hh);exact e_0 (by simp [hh])
   clear e_0
   go_enter Tryz.func105,Tryz.ntmps105
   go_wp2_with fail
   go_ret
   exact EqP.f HE.out uu0
 replace e_0:=Decidable.of_not_not e_0
 subst e_0
 by_cases e_1:¬ x1=y1
 · have hx:(x1 == y1)=false:=by simp [e_1]
   have HE:Hid (¬ (x0,x1,x2,x3)=(x0,y1,y2,y3)):=by unfold Hid;intro hh;(try simp only [Prod.mk.injEq] at hh);exact e_1 (by simp [hh])
   clear e_1
   go_enter Tryz.func105,Tryz.ntmps105
   go_wp2_with fail
   go_ret
   exact EqP.f HE.out uu0
 replace e_1:=Decidable.of_not_not e_1
 subst e_1
 by_cases e_2:¬ x2=y2
 · have hx:(x2 == y2)=false:=by simp [e_2]
   have HE:Hid (¬ (x0,x1,x2,x3)=(x0,x1,y2,y3)):=by unfold Hid;intro hh;(try simp only [Prod.mk.injEq] at hh);exact e_2 (by simp [hh])
   clear e_2
   go_enter Tryz.func105,Tryz.ntmps105
   go_wp2_with fail
   go_ret
   exact EqP.f HE.out uu0
 replace e_2:=Decidable.of_not_not e_2
 subst e_2
 go_enter Tryz.func105,Tryz.ntmps105
 go_wp2_with fail
 refine (c_slEqSeat _ _ _ _ _ _ _ (b3.up good_Seat uu0) (e3.up good_Seat uu0)).mono ?_
 rintro r w1 ⟨bb,rfl,hbb,u1⟩
 have uu1:=uu0.trans u1
 have kx1:=kx0.up u1
 have ky1:=ky0.up u1
 clear u1
 rcases eqb_cases hbb with ⟨rfl,e_3⟩ | ⟨rfl,e_3⟩
 · clear hbb
   have HE:Hid (¬ (x0,x1,x2,x3)=(x0,x1,x2,y3)):=by unfold Hid;intro hh;(try simp only [Prod.mk.injEq] at hh);exact e_3 (by simp [hh])
   clear e_3
   go_wp2_with fail
   go_ret
   exact EqP.f HE.out uu1
 clear hbb
 subst e_3
 go_wp2_with fail
 go_ret
 exact EqP.t (by simp) uu1
theorem zeroT_iff (x:TTop):x=(0,0,0,[])↔zeroT x=true:=by
 obtain ⟨x0,x1,x2,x3⟩:=x
 simp [zeroT,and_assoc]
theorem c_isZeroTop (v:Value) (x:TTop) (w:World) (h:AV shTop w v x):Calls Tryz.prog 52 #[v] w (BoolP (zeroT x) w):=by
 have hv:=h
 obtain ⟨cs,rfl,h⟩:=h
 obtain ⟨A3,c3,rfl,b0,b1,b2,b3⟩:=openTop h
 have u0:Up w (w.alloc (.cells #[.int .i64 x.1,.int .i64 x.2.1,.int .i64 x.2.2.1,.slice A3 x.2.2.2.length c3] 48)):=(Up.refl _).alloc _
 go_enter Tryz.func52,Tryz.ntmps52
 go_wp2_with fail
 refine (c_sameTop _ _ x (0,0,0,[]) _ (hv.up good_Top u0) ⟨_,rfl,mkTop (x:=(0,0,0,[])) (A3:=none) (c3:=0) ⟨by decide,by decide⟩ ⟨by decide,by decide⟩ ⟨by decide,by decide⟩ (SR.nil _ _ _)⟩).mono ?_
 rintro e w1 ⟨b,rfl,hb,u1⟩
 rw [zeroT_iff] at hb
 have HB:Hid (zeroT x=b):=by unfold Hid;cases b <;> cases hz:zeroT x <;> simp_all
 clear hb
 go_wp2_with fail
 go_ret
 exact bool_end HB (u0.trans u1)
end Go.Proofs.YthdnicfbnihoaaaGreatDoor
