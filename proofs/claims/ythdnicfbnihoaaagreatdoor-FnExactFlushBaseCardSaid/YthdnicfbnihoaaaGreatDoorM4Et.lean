/-
 EndTop: the program's and the reference's give one cache in new memory,and a code.
-/
import Derived.Test.YthdnicfbnihoaaaGreatDoorM4Fs
import Derived.Test.YthdnicfbnihoaaaGreatDoorM4K
set_option maxHeartbeats 8000000
set_option maxRecDepth 100000
namespace Go.Proofs.YthdnicfbnihoaaaGreatDoor
open Go.RowKit
set_option linter.unusedVariables false
set_option linter.unusedSimpArgs false
theorem nd_snoc {a b:List Nat} {m m':Nat} (ha:a.Nodup∧∀x∈a,x<m) (hb:b.Nodup) (h1:∀x∈b,m≤x∧x<m') (hm:m≤m'):(a++b).Nodup∧∀x∈a++b,x<m' :=
 ⟨nodup_two ha.1 hb ha.2 (fun x hx=>(h1 x hx).1),fun x hx=>by
   rcases List.mem_append.1 hx with h | h
   · exact Nat.lt_of_lt_of_le (ha.2 x h) hm
   · exact (h1 x h).2⟩
theorem c_CloneSeatS (xs:List TSeat) (A:Option Addr) (c:Nat) (w:World) (h:SRW shSeat w A c xs) (hn:xs.length≤1048576) :
   Calls Tryz.prog 109 #[.slice A xs.length c] w (ToL shSeat xs w):=by
 obtain ⟨i0,hi0,hz0,hz1,hz2⟩:=info_parts cinfo_SeatS
 cases A with
 | none =>
   obtain rfl:xs=[]:=by
     rcases Nat.eq_zero_or_pos xs.length with h0 | hp
     · exact List.eq_nil_of_length_eq_zero h0
     · obtain ⟨g,off,hA,_⟩:=h.2.2 hp;cases hA
   have he:∀W:World,(binOp .eql 46 (.slice none 0 c) (.slice none 0 0)).run Tryz.prog W=.ok (.bool true) W:=fun _=>rfl
   go_enter Tryz.func109,Tryz.ntmps109
   go_wp2_with fail
   go_ret
   exact ⟨none,0,[],rfl,SO.nil _ _ _,by simp,Up.refl _⟩
 | some ad =>
   have he:∀W:World,(binOp .eql 46 (.slice (some ad) xs.length c) (.slice none 0 0)).run Tryz.prog W=.ok (.bool false) W:=fun _=>rfl
   go_enter Tryz.func109,Tryz.ntmps109
   go_wp2_with (first
     | (at_builtin
        refine wpList_app_new good_Seat flat_Seat rfl _ _ _ 125 rfl i0 _ Tryz.underlying46 hi0 hz0 hz1 (by rfl) rfl rfl (h.up good_Seat ((Up.refl w).alloc _)) (by rw [hz2];omega) ?_
        intro D d bl w1 hso hnd hu))
   go_ret
   exact ⟨D,d,bl,rfl,hso.wide good_Seat (by simp) (Nat.le_refl _),hnd,((Up.refl w).alloc _).trans hu⟩
theorem c_CloneInt64S (xs:List Int) (A:Option Addr) (c:Nat) (w:World) (h:SRW shI w A c xs) (hn:xs.length≤1048576) :
   Calls Tryz.prog 110 #[.slice A xs.length c] w (ToL shI xs w):=by
 obtain ⟨i0,hi0,hz0,hz1,hz2⟩:=info_parts cinfo_I
 cases A with
 | none =>
   obtain rfl:xs=[]:=by
     rcases Nat.eq_zero_or_pos xs.length with h0 | hp
     · exact List.eq_nil_of_length_eq_zero h0
     · obtain ⟨g,off,hA,_⟩:=h.2.2 hp;cases hA
   have he:∀W:World,(binOp .eql 32 (.slice none 0 c) (.slice none 0 0)).run Tryz.prog W=.ok (.bool true) W:=fun _=>rfl
   go_enter Tryz.func110,Tryz.ntmps110
   go_wp2_with fail
   go_ret
   exact ⟨none,0,[],rfl,SO.nil _ _ _,by simp,Up.refl _⟩
 | some ad =>
   have he:∀W:World,(binOp .eql 32 (.slice (some ad) xs.length c) (.slice none 0 0)).run Tryz.prog W=.ok (.bool false) W:=fun _=>rfl
   go_enter Tryz.func110,Tryz.ntmps110
   go_wp2_with (first
     | (at_builtin
        refine wpList_app_new good_I flat_I rfl _ _ _ 2 rfl i0 _ Tryz.underlying32 hi0 hz0 hz1 (by rfl) rfl rfl (h.up good_I ((Up.refl w).alloc _)) (by rw [hz2];omega) ?_
        intro D d bl w1 hso hnd hu))
   go_ret
   exact ⟨D,d,bl,rfl,hso.wide good_I (by simp) (Nat.le_refl _),hnd,((Up.refl w).alloc _).trans hu⟩
theorem c_copyTop (v:Value) (x:TTop) (w:World) (h:AV shTop w v x) (hl:x.2.2.2.length≤1048576):Calls Tryz.prog 108 #[v] w (ToV shTop x w):=by
 obtain ⟨cs,rfl,h⟩:=h
 obtain ⟨A3,c3,rfl,b0,b1,b2,b3⟩:=openTop h
 clear h
 have ua1:Up w (w.alloc (.cells #[.int .i64 x.1,.int .i64 x.2.1,.int .i64 x.2.2.1,.slice A3 x.2.2.2.length c3] 48)):=(Up.refl _).alloc _
 have uu1:=(Up.refl w).trans ua1
 have ka_1:Bk (w.alloc (.cells #[.int .i64 x.1,.int .i64 x.2.1,.int .i64 x.2.2.1,.slice A3 x.2.2.2.length c3] 48)) (w.heap.size) 48 #[.int .i64 x.1,.int .i64 x.2.1,.int .i64 x.2.2.1,.slice A3 x.2.2.2.length c3]:=by simpa using Bk.new w 48 #[.int .i64 x.1,.int .i64 x.2.1,.int .i64 x.2.2.1,.slice A3 x.2.2.2.length c3]
 have ua2:Up (w.alloc (.cells #[.int .i64 x.1,.int .i64 x.2.1,.int .i64 x.2.2.1,.slice A3 x.2.2.2.length c3] 48)) ((w.alloc (.cells #[.int .i64 x.1,.int .i64 x.2.1,.int .i64 x.2.2.1,.slice A3 x.2.2.2.length c3] 48)).alloc (.cells #[.int .i64 0,.int .i64 0,.int .i64 0,.slice none 0 0] 48)):=(Up.refl _).alloc _
 have uu2:=uu1.trans ua2
 have ka_2:=ka_1.up ua2
 have kr_2:Bk ((w.alloc (.cells #[.int .i64 x.1,.int .i64 x.2.1,.int .i64 x.2.2.1,.slice A3 x.2.2.2.length c3] 48)).alloc (.cells #[.int .i64 0,.int .i64 0,.int .i64 0,.slice none 0 0] 48)) (w.heap.size+1) 48 #[.int .i64 0,.int .i64 0,.int .i64 0,.slice none 0 0]:=by simpa using Bk.new (w.alloc (.cells #[.int .i64 x.1,.int .i64 x.2.1,.int .i64 x.2.2.1,.slice A3 x.2.2.2.length c3] 48)) 48 #[.int .i64 0,.int .i64 0,.int .i64 0,.slice none 0 0]
 go_enter Tryz.func108,Tryz.ntmps108
 go_wp2_with fail
 refine (c_CloneSeatS x.2.2.2 A3 c3 _ (b3.up good_Seat uu2) hl).mono ?_
 rintro e w3 ⟨D3,d3,bl,rfl,o1,nd1,u3⟩
 have uu3:=uu2.trans u3
 have ka_3:=ka_2.up u3
 have za_3:=ka_3.lt
 have kr_3:=kr_2.up u3
 have zr_3:=kr_3.lt
 have o1w:=o1.wide good_Seat (lo':=w.heap.size+1+1) (by simp) (Nat.le_refl _)
 have ga3_0:w3.cell? ⟨w.heap.size,0,none⟩=some (.int .i64 x.1):=ka_3.cell 0
 have fa3_0:=ka_3.frozen 0
 have ga3_1:w3.cell? ⟨w.heap.size,1,none⟩=some (.int .i64 x.2.1):=ka_3.cell 1
 have fa3_1:=ka_3.frozen 1
 have ga3_2:w3.cell? ⟨w.heap.size,2,none⟩=some (.int .i64 x.2.2.1):=ka_3.cell 2
 have fa3_2:=ka_3.frozen 2
 have ga3_3:w3.cell? ⟨w.heap.size,3,none⟩=some (.slice A3 x.2.2.2.length c3):=ka_3.cell 3
 have fa3_3:=ka_3.frozen 3
 have gr3_0:w3.cell? ⟨w.heap.size+1,0,none⟩=some (.int .i64 0):=kr_3.cell 0
 have fr3_0:=kr_3.frozen 0
 have gr3_1:w3.cell? ⟨w.heap.size+1,1,none⟩=some (.int .i64 0):=kr_3.cell 1
 have fr3_1:=kr_3.frozen 1
 have gr3_2:w3.cell? ⟨w.heap.size+1,2,none⟩=some (.int .i64 0):=kr_3.cell 2
 have fr3_2:=kr_3.frozen 2
 have gr3_3:w3.cell? ⟨w.heap.size+1,3,none⟩=some (.slice none 0 0):=kr_3.cell 3
 have fr3_3:=kr_3.frozen 3
 have bt4:But (w.heap.size) w3 (w3.setCell ⟨w.heap.size,3,none⟩ (.slice D3 x.2.2.2.length d3)):=But.sets (g:=w.heap.size) [.slice D3 x.2.2.2.length d3] w3 3
 have uu4:Up w (w3.setCell ⟨w.heap.size,3,none⟩ (.slice D3 x.2.2.2.length d3)):=uu3.but bt4 (by omega)
 have ka_4:Bk (w3.setCell ⟨w.heap.size,3,none⟩ (.slice D3 x.2.2.2.length d3)) (w.heap.size) 48 #[.int .i64 x.1,.int .i64 x.2.1,.int .i64 x.2.2.1,.slice D3 x.2.2.2.length d3]:=ka_3.sets [.slice D3 x.2.2.2.length d3] 3
 have kr_4:Bk (w3.setCell ⟨w.heap.size,3,none⟩ (.slice D3 x.2.2.2.length d3)) (w.heap.size+1) 48 #[.int .i64 0,.int .i64 0,.int .i64 0,.slice none 0 0]:=kr_3.but bt4 (by omega)
 have ga4_0:(w3.setCell ⟨w.heap.size,3,none⟩ (.slice D3 x.2.2.2.length d3)).cell? ⟨w.heap.size,0,none⟩=some (.int .i64 x.1):=ka_4.cell 0
 have fa4_0:=ka_4.frozen 0
 have ga4_1:(w3.setCell ⟨w.heap.size,3,none⟩ (.slice D3 x.2.2.2.length d3)).cell? ⟨w.heap.size,1,none⟩=some (.int .i64 x.2.1):=ka_4.cell 1
 have fa4_1:=ka_4.frozen 1
 have ga4_2:(w3.setCell ⟨w.heap.size,3,none⟩ (.slice D3 x.2.2.2.length d3)).cell? ⟨w.heap.size,2,none⟩=some (.int .i64 x.2.2.1):=ka_4.cell 2
 have fa4_2:=ka_4.frozen 2
 have ga4_3:(w3.setCell ⟨w.heap.size,3,none⟩ (.slice D3 x.2.2.2.length d3)).cell? ⟨w.heap.size,3,none⟩=some (.slice D3 x.2.2.2.length d3):=ka_4.cell 3
 have fa4_3:=ka_4.frozen 3
 have gr4_0:(w3.setCell ⟨w.heap.size,3,none⟩ (.slice D3 x.2.2.2.length d3)).cell? ⟨w.heap.size+1,0,none⟩=some (.int .i64 0):=kr_4.cell 0
 have fr4_0:=kr_4.frozen 0
 have gr4_1:(w3.setCell ⟨w.heap.size,3,none⟩ (.slice D3 x.2.2.2.length d3)).cell? ⟨w.heap.size+1,1,none⟩=some (.int .i64 0):=kr_4.cell 1
 have fr4_1:=kr_4.frozen 1
 have gr4_2:(w3.setCell ⟨w.heap.size,3,none⟩ (.slice D3 x.2.2.2.length d3)).cell? ⟨w.heap.size+1,2,none⟩=some (.int .i64 0):=kr_4.cell 2
 have fr4_2:=kr_4.frozen 2
 have gr4_3:(w3.setCell ⟨w.heap.size,3,none⟩ (.slice D3 x.2.2.2.length d3)).cell? ⟨w.heap.size+1,3,none⟩=some (.slice none 0 0):=kr_4.cell 3
 have fr4_3:=kr_4.frozen 3
 go_wp2_with fail
 have q1:=o1w.set good_Seat w.heap.size 3 [.slice D3 x.2.2.2.length d3] (by omega)
 refine bodyPost_ret (v:=.agg #[.int .i64 x.1,.int .i64 x.2.1,.int .i64 x.2.2.1,.slice D3 x.2.2.2.length d3]) (by simp [results,Tryz.results108,go_sem,gr4_0,gr4_1,gr4_2,gr4_3]) rfl ?_
 exact ⟨[.int .i64 x.1,.int .i64 x.2.1,.int .i64 x.2.2.1,.slice D3 x.2.2.2.length d3],bl,rfl,asmTop b0 b1 b2 ((q1.set good_Seat (w.heap.size+1) 0 [.int .i64 x.1,.int .i64 x.2.1,.int .i64 x.2.2.1,.slice D3 x.2.2.2.length d3] (by omega)).wide good_Seat (by omega) (Nat.le_refl _)),nd1,uu4.sets (g:=w.heap.size+1) (by omega) 0 [.int .i64 x.1,.int .i64 x.2.1,.int .i64 x.2.2.1,.slice D3 x.2.2.2.length d3]⟩
theorem c_copyCache (v:Value) (x:TCache) (w:World) (h:AV shCache w v x) (hn:shCache.sz x≤1048576):Calls Tryz.prog 54 #[v] w fun e w'=>∃g cs bl,e=.returned (.pointer (some ⟨g,0,none⟩))∧Bk w' g 50 cs.toArray∧shCache.own w' w.heap.size w'.heap.size cs x bl∧bl.Nodup∧g ∉ bl∧w.heap.size≤g∧Up w w':=by
 obtain ⟨cs,rfl,h⟩:=h
 obtain ⟨A1,c1,A2,c2,A6,c6,A10,c10,A11,c11,A12,c12,rfl,b0,b1,b2,b3,b4,b5,b6,b7,b8,b9,b10,b11,b12⟩:=openCache h
 clear h
 obtain ⟨ns1,ns6,ns10,ns11,ns12⟩:=cache_sz hn
 have ua1:Up w (w.alloc (.cells #[.int .i64 x.1.1,.slice A1 x.1.2.1.length c1,.slice A2 x.1.2.2.length c2,.int .i64 x.2.1.1,.int .i64 x.2.1.2.1,.int .i64 x.2.1.2.2.1,.slice A6 x.2.1.2.2.2.length c6,.int .i64 x.2.2.1.1,.int .i64 x.2.2.1.2.1,.int .i64 x.2.2.1.2.2.1,.slice A10 x.2.2.1.2.2.2.length c10,.slice A11 x.2.2.2.1.length c11,.slice A12 x.2.2.2.2.length c12] 50)):=(Up.refl _).alloc _
 have uu1:=(Up.refl w).trans ua1
 have ka_1:Bk (w.alloc (.cells #[.int .i64 x.1.1,.slice A1 x.1.2.1.length c1,.slice A2 x.1.2.2.length c2,.int .i64 x.2.1.1,.int .i64 x.2.1.2.1,.int .i64 x.2.1.2.2.1,.slice A6 x.2.1.2.2.2.length c6,.int .i64 x.2.2.1.1,.int .i64 x.2.2.1.2.1,.int .i64 x.2.2.1.2.2.1,.slice A10 x.2.2.1.2.2.2.length c10,.slice A11 x.2.2.2.1.length c11,.slice A12 x.2.2.2.2.length c12] 50)) (w.heap.size) 50 #[.int .i64 x.1.1,.slice A1 x.1.2.1.length c1,.slice A2 x.1.2.2.length c2,.int .i64 x.2.1.1,.int .i64 x.2.1.2.1,.int .i64 x.2.1.2.2.1,.slice A6 x.2.1.2.2.2.length c6,.int .i64 x.2.2.1.1,.int .i64 x.2.2.1.2.1,.int .i64 x.2.2.1.2.2.1,.slice A10 x.2.2.1.2.2.2.length c10,.slice A11 x.2.2.2.1.length c11,.slice A12 x.2.2.2.2.length c12]:=by simpa using Bk.new w 50 #[.int .i64 x.1.1,.slice A1 x.1.2.1.length c1,.slice A2 x.1.2.2.length c2,.int .i64 x.2.1.1,.int .i64 x.2.1.2.1,.int .i64 x.2.1.2.2.1,.slice A6 x.2.1.2.2.2.length c6,.int .i64 x.2.2.1.1,.int .i64 x.2.2.1.2.1,.int .i64 x.2.2.1.2.2.1,.slice A10 x.2.2.1.2.2.2.length c10,.slice A11 x.2.2.2.1.length c11,.slice A12 x.2.2.2.2.length c12]
 have kA:=ka_1.drew
 have uA:=uu1.drew
 go_enter Tryz.func54,Tryz.ntmps54
 go_wp2_with fail
 go_region_held3 (fun W=>W.cell? ⟨w.heap.size,0,none⟩=some (.int .i64 x.1.1)∧W.cell? ⟨w.heap.size,1,none⟩=some (.slice A1 x.1.2.1.length c1)∧W.cell? ⟨w.heap.size,2,none⟩=some (.slice A2 x.1.2.2.length c2)∧W.cell? ⟨w.heap.size,3,none⟩=some (.int .i64 x.2.1.1)∧W.cell? ⟨w.heap.size,4,none⟩=some (.int .i64 x.2.1.2.1)∧W.cell? ⟨w.heap.size,5,none⟩=some (.int .i64 x.2.1.2.2.1)∧W.cell? ⟨w.heap.size,6,none⟩=some (.slice A6 x.2.1.2.2.2.length c6)∧W.cell? ⟨w.heap.size,7,none⟩=some (.int .i64 x.2.2.1.1)∧W.cell? ⟨w.heap.size,8,none⟩=some (.int .i64 x.2.2.1.2.1)∧W.cell? ⟨w.heap.size,9,none⟩=some (.int .i64 x.2.2.1.2.2.1)∧W.cell? ⟨w.heap.size,10,none⟩=some (.slice A10 x.2.2.1.2.2.2.length c10)∧W.cell? ⟨w.heap.size,11,none⟩=some (.slice A11 x.2.2.2.1.length c11)∧W.cell? ⟨w.heap.size,12,none⟩=some (.slice A12 x.2.2.2.2.length c12)) (first | exact ⟨kA.cell 0,kA.cell 1,kA.cell 2,kA.cell 3,kA.cell 4,kA.cell 5,kA.cell 6,kA.cell 7,kA.cell 8,kA.cell 9,kA.cell 10,kA.cell 11,kA.cell 12⟩ | exact ⟨(kA.alloc _).cell 0,(kA.alloc _).cell 1,(kA.alloc _).cell 2,(kA.alloc _).cell 3,(kA.alloc _).cell 4,(kA.alloc _).cell 5,(kA.alloc _).cell 6,(kA.alloc _).cell 7,(kA.alloc _).cell 8,(kA.alloc _).cell 9,(kA.alloc _).cell 10,(kA.alloc _).cell 11,(kA.alloc _).cell 12⟩)
   (first
     | (go_at_call 107;(refine (c_copyDisk _ x.1 _ ⟨_,rfl,mkDisk (x:=x.1) b0 (b1.up good_S uA) (b2.up good_Put uA)⟩ ns1).mono ?_);rintro e w1 ⟨cs0,bl0,rfl,o0,nd0,u1⟩;obtain ⟨D1,d1,_,D2,d2,_,rfl,_,_⟩:=openODisk o0;have i0:=fun b hb=>good_Disk.own_in o0 b hb;replace kA:=kA.up u1;replace uA:=uA.trans u1)
     | (go_at_call 108;(refine (c_copyTop _ x.2.1 _ ⟨_,rfl,mkTop (x:=x.2.1) b3 b4 b5 (b6.up good_Seat uA)⟩ ns6).mono ?_);rintro e w2 ⟨cs3,bl3,rfl,o3,nd3,u2⟩;obtain ⟨D6,d6,_,rfl,_,_⟩:=openOTop o3;have i3:=fun b hb=>good_Top.own_in o3 b hb;replace kA:=kA.up u2;replace uA:=uA.trans u2)
     | (go_at_call 108;(refine (c_copyTop _ x.2.2.1 _ ⟨_,rfl,mkTop (x:=x.2.2.1) b7 b8 b9 (b10.up good_Seat uA)⟩ ns10).mono ?_);rintro e w3 ⟨cs7,bl7,rfl,o7,nd7,u3⟩;obtain ⟨D10,d10,_,rfl,_,_⟩:=openOTop o7;have i7:=fun b hb=>good_Top.own_in o7 b hb;replace kA:=kA.up u3;replace uA:=uA.trans u3)
     | (go_at_call 109;(refine (c_CloneSeatS x.2.2.2.1 A11 c11 _ (b11.up good_Seat uA) ns11).mono ?_);rintro e w4 ⟨D11,d11,bl11,rfl,o11,nd11,u4⟩;have i11:=o11.in_ good_Seat;replace kA:=kA.up u4;replace uA:=uA.trans u4)
     | (go_at_call 110;(refine (c_CloneInt64S x.2.2.2.2 A12 c12 _ (b12.up good_I uA) ns12).mono ?_);rintro e w5 ⟨D12,d12,bl12,rfl,o12,nd12,u5⟩;have i12:=o12.in_ good_I;replace kA:=kA.up u5;replace uA:=uA.trans u5))
 have z1:=u1.size
 have z2:=u2.size
 have z3:=u3.size
 have z4:=u4.size
 have z5:=u5.size
 have hz1:(w.alloc (.cells #[.int .i64 x.1.1,.slice A1 x.1.2.1.length c1,.slice A2 x.1.2.2.length c2,.int .i64 x.2.1.1,.int .i64 x.2.1.2.1,.int .i64 x.2.1.2.2.1,.slice A6 x.2.1.2.2.2.length c6,.int .i64 x.2.2.1.1,.int .i64 x.2.2.1.2.1,.int .i64 x.2.2.1.2.2.1,.slice A10 x.2.2.1.2.2.2.length c10,.slice A11 x.2.2.2.1.length c11,.slice A12 x.2.2.2.2.length c12] 50)).drew.heap.size=w.heap.size+1:=by simp
 have m0:bl0.Nodup∧∀b∈bl0,b<w1.heap.size:=⟨nd0,fun b hb=>(i0 b hb).2⟩
 have m3:=nd_snoc m0 nd3 i3 z2
 have m7:=nd_snoc m3 nd7 i7 z3
 have m11:=nd_snoc m7 nd11 i11 z4
 have m12:=nd_snoc m11 nd12 i12 z5
 have UA:=(Up.refl w5).alloc (.cells #[.int .i64 x.1.1,.slice D1 x.1.2.1.length d1,.slice D2 x.1.2.2.length d2,.int .i64 x.2.1.1,.int .i64 x.2.1.2.1,.int .i64 x.2.1.2.2.1,.slice D6 x.2.1.2.2.2.length d6,.int .i64 x.2.2.1.1,.int .i64 x.2.2.1.2.1,.int .i64 x.2.2.1.2.2.1,.slice D10 x.2.2.1.2.2.2.length d10,.slice D11 x.2.2.2.1.length d11,.slice D12 x.2.2.2.2.length d12] 50)
 replace o0:=good_Disk.own_wide (own_up good_Disk (own_up good_Disk (own_up good_Disk (own_up good_Disk (own_up good_Disk o0 u2) u3) u4) u5) UA) (lo':=w.heap.size) (by omega) (Nat.le_refl _)
 replace o3:=good_Top.own_wide (own_up good_Top (own_up good_Top (own_up good_Top (own_up good_Top o3 u3) u4) u5) UA) (lo':=w.heap.size) (by omega) (Nat.le_refl _)
 replace o7:=good_Top.own_wide (own_up good_Top (own_up good_Top (own_up good_Top o7 u4) u5) UA) (lo':=w.heap.size) (by omega) (Nat.le_refl _)
 replace o11:=((o11.up good_Seat u5).up good_Seat UA).wide good_Seat (lo':=w.heap.size) (by omega) (Nat.le_refl _)
 replace o12:=(o12.up good_I UA).wide good_I (lo':=w.heap.size) (by omega) (Nat.le_refl _)
 go_wp2_with fail
 go_ret
 exact ⟨w5.heap.size,[.int .i64 x.1.1,.slice D1 x.1.2.1.length d1,.slice D2 x.1.2.2.length d2,.int .i64 x.2.1.1,.int .i64 x.2.1.2.1,.int .i64 x.2.1.2.2.1,.slice D6 x.2.1.2.2.2.length d6,.int .i64 x.2.2.1.1,.int .i64 x.2.2.1.2.1,.int .i64 x.2.2.1.2.2.1,.slice D10 x.2.2.1.2.2.2.length d10,.slice D11 x.2.2.2.1.length d11,.slice D12 x.2.2.2.2.length d12],_,rfl,Bk.new _ _ _,asmCache o0 o3 o7 o11 o12,m12.1,fun hb=>Nat.lt_irrefl _ (m12.2 _ hb),by omega,uA.trans UA⟩
theorem c_l18OwnTop (v:Value) (x:TTop) (w:World) (h:AV shTop w v x) (hl:x.2.2.2.length≤1048576):Calls Tryz.prog 126 #[v] w (ToV shTop x w):=by
 obtain ⟨cs,rfl,h⟩:=h
 obtain ⟨A3,c3,rfl,b0,b1,b2,b3⟩:=openTop h
 clear h
 obtain ⟨i0,hi0,hz0,hz1,hz2⟩:=info_parts cinfo_SeatS
 have uu:Up w ((((w.alloc (.cells #[.int .i64 x.1,.int .i64 x.2.1,.int .i64 x.2.2.1,.slice A3 x.2.2.2.length c3] 48)).alloc (.cells #[.int .i64 0,.int .i64 0,.int .i64 0,.slice none 0 0] 48)).alloc (.cells #[.int .i64 x.1,.int .i64 x.2.1,.int .i64 x.2.2.1,.slice A3 x.2.2.2.length c3] 48)).alloc (.cells #[] 125)):=((((Up.refl _).alloc _).alloc _).alloc _).alloc _
 have kr:Bk ((((w.alloc (.cells #[.int .i64 x.1,.int .i64 x.2.1,.int .i64 x.2.2.1,.slice A3 x.2.2.2.length c3] 48)).alloc (.cells #[.int .i64 0,.int .i64 0,.int .i64 0,.slice none 0 0] 48)).alloc (.cells #[.int .i64 x.1,.int .i64 x.2.1,.int .i64 x.2.2.1,.slice A3 x.2.2.2.length c3] 48)).alloc (.cells #[] 125)) (w.heap.size+1) 48 #[.int .i64 0,.int .i64 0,.int .i64 0,.slice none 0 0]:=by simpa using ((Bk.new (w.alloc (.cells #[.int .i64 x.1,.int .i64 x.2.1,.int .i64 x.2.2.1,.slice A3 x.2.2.2.length c3] 48)) 48 #[.int .i64 0,.int .i64 0,.int .i64 0,.slice none 0 0]).alloc (.cells #[.int .i64 x.1,.int .i64 x.2.1,.int .i64 x.2.2.1,.slice A3 x.2.2.2.length c3] 48)).alloc (.cells #[] 125)
 have ko:Bk ((((w.alloc (.cells #[.int .i64 x.1,.int .i64 x.2.1,.int .i64 x.2.2.1,.slice A3 x.2.2.2.length c3] 48)).alloc (.cells #[.int .i64 0,.int .i64 0,.int .i64 0,.slice none 0 0] 48)).alloc (.cells #[.int .i64 x.1,.int .i64 x.2.1,.int .i64 x.2.2.1,.slice A3 x.2.2.2.length c3] 48)).alloc (.cells #[] 125)) (w.heap.size+1+1) 48 #[.int .i64 x.1,.int .i64 x.2.1,.int .i64 x.2.2.1,.slice A3 x.2.2.2.length c3]:=by simpa using (Bk.new ((w.alloc (.cells #[.int .i64 x.1,.int .i64 x.2.1,.int .i64 x.2.2.1,.slice A3 x.2.2.2.length c3] 48)).alloc (.cells #[.int .i64 0,.int .i64 0,.int .i64 0,.slice none 0 0] 48)) 48 #[.int .i64 x.1,.int .i64 x.2.1,.int .i64 x.2.2.1,.slice A3 x.2.2.2.length c3]).alloc (.cells #[] 125)
 have zz:w.heap.size+1+1+1≤((((w.alloc (.cells #[.int .i64 x.1,.int .i64 x.2.1,.int .i64 x.2.2.1,.slice A3 x.2.2.2.length c3] 48)).alloc (.cells #[.int .i64 0,.int .i64 0,.int .i64 0,.slice none 0 0] 48)).alloc (.cells #[.int .i64 x.1,.int .i64 x.2.1,.int .i64 x.2.2.1,.slice A3 x.2.2.2.length c3] 48)).alloc (.cells #[] 125)).heap.size:=by simp
 go_enter Tryz.func126,Tryz.ntmps126
 go_wp2_with (first | (at_builtin;refine wpList_app_new good_Seat flat_Seat rfl _ _ _ 125 rfl i0 _ Tryz.underlying46 hi0 hz0 hz1 (by rfl) rfl rfl (b3.up good_Seat uu) (by rw [hz2];omega) ?_;intro D3 d3 bl w1 so nd u;replace so:=so.wide good_Seat zz (Nat.le_refl _);replace zz:=Nat.le_trans zz u.size;replace uu:=uu.trans u;replace kr:=kr.up u;replace ko:=ko.up u;clear u) | (refine wpList_store1_bk (.slice D3 x.2.2.2.length d3) ko rfl rfl (by kernel_rfl) rfl rfl (Nat.le_of_ble_eq_true rfl) ?_;intro W1 bt ko1;replace ko:Bk W1 (w.heap.size+1+1) 48 #[.int .i64 x.1,.int .i64 x.2.1,.int .i64 x.2.2.1,.slice D3 x.2.2.2.length d3]:=ko1;clear ko1;replace kr:=kr.butM bt (by omega);replace so:=so.but good_Seat bt (by omega);replace uu:=uu.but bt (by omega);clear bt) | (refine wpList_load_bk [.int .i64 x.1,.int .i64 x.2.1,.int .i64 x.2.2.1,.slice D3 x.2.2.2.length d3] ko rfl Tryz.underlying48 rfl (by kernel_rfl) rfl ?_) | (refine wpList_store_bk [.int .i64 x.1,.int .i64 x.2.1,.int .i64 x.2.2.1,.slice D3 x.2.2.2.length d3] kr rfl rfl (by kernel_rfl) rfl (Nat.le_of_ble_eq_true rfl) ?_;intro W2 bt kr1;replace kr:Bk W2 (w.heap.size+1) 48 #[.int .i64 x.1,.int .i64 x.2.1,.int .i64 x.2.2.1,.slice D3 x.2.2.2.length d3]:=kr1;clear kr1;replace so:=so.but good_Seat bt (by omega);replace uu:=uu.but bt (by omega);clear bt))
 refine bodyPost_ret (results_bk kr _ _ Tryz.results126 rfl Tryz.underlying48 rfl (by kernel_rfl)) rfl ?_
 exact ⟨[.int .i64 x.1,.int .i64 x.2.1,.int .i64 x.2.2.1,.slice D3 x.2.2.2.length d3],bl,rfl,asmTop b0 b1 b2 (so.wide good_Seat (by omega) (Nat.le_refl _)),nd,uu⟩
theorem c_l00Own (xs:List Int) (A:Option Addr) (c:Nat) (w:World) (h:SRW shI w A c xs) (hn:xs.length≤1048576):Calls Tryz.prog 127 #[.slice A xs.length c] w (ToL shI xs w):=by
 obtain ⟨i0,hi0,hz0,hz1,hz2⟩:=info_parts cinfo_I
 go_enter Tryz.func127,Tryz.ntmps127
 go_wp2_with (at_builtin;refine wpList_app_new good_I flat_I rfl _ _ _ 2 rfl i0 _ Tryz.underlying32 hi0 hz0 hz1 (by rfl) rfl rfl (h.up good_I ((Up.refl w).alloc _)) (by rw [hz2];omega) ?_;intro D d bl w1 hso hnd hu)
 go_ret
 exact ⟨D,d,bl,rfl,hso.wide good_I (by simp) (Nat.le_refl _),hnd,((Up.refl w).alloc _).trans hu⟩
end Go.Proofs.YthdnicfbnihoaaaGreatDoor
