/-
 copyDisk and l17Own: a disk in new memory.
 DiskOk: the program's and the reference's compute one function of a disk.
 The flush of a disk: each write put into its sector.
 Small contracts about a disk: l17Has;results that are zero.
 Stamped: the program's and the reference's compute one function;the law returns true.
 A set of numbers as a map[int64]bool that the call has made. No program is named here.
 Whole rows loaded out of,and stored into,known blocks: the world behind a store is a variable.
-/
import Derived.Test.YthdnicfbnihoaaaGreatDoorM4G
import Derived.Test.YthdnicfbnihoaaaGreatDoorM4J
import Derived.Deep.RegionHeld3
import Derived.Test.YthdnicfbnihoaaaGreatDoorM4E
import Derived.Test.YthdnicfbnihoaaaGreatDoorM4Le
import Derived.Shelf.Abstract
import Derived.Test.YthdnicfbnihoaaaGreatDoorM4A
import Derived.Test.YthdnicfbnihoaaaGreatDoorM4M
import Derived.Maps.Own
import Derived.Maps.OwnSet
import Derived.Deep.MidRow
set_option maxHeartbeats 4000000
set_option maxRecDepth 100000
namespace Go.Proofs.YthdnicfbnihoaaaGreatDoor
open Go.RowKit
set_option linter.unusedVariables false
set_option linter.unusedSimpArgs false
theorem c_copyDisk (v:Value) (x:TDisk) (w:World) (h:AV shDisk w v x) (hn:shDisk.sz x≤1048576):Calls Tryz.prog 107 #[v] w (ToV shDisk x w):=by
 obtain ⟨cs,rfl,h⟩:=h
 obtain ⟨x0,x1,x2⟩:=x
 have ho:=openDisk h
 dsimp only at ho
 obtain ⟨A1,c1,A2,c2,rfl,b0,b1,b2⟩:=ho
 have hs:shDisk.sz (x0,x1,x2)=0+((shL shS).sz x1+((shL shPut).sz x2)):=rfl
 have hl1:x1.length≤1048576:=Nat.le_trans (Nat.le_add_right _ _) (show (shL shS).sz x1≤_ by omega)
 have hl2:x2.length≤1048576:=Nat.le_trans (Nat.le_add_right _ _) (show (shL shPut).sz x2≤_ by omega)
 clear hs hn
 have vv0:Up w ((w.alloc (.cells #[.int .i64 x0,.slice A1 x1.length c1,.slice A2 x2.length c2] 45)).alloc (.cells #[.int .i64 0,.slice none 0 0,.slice none 0 0] 45)):=((Up.refl _).alloc _).alloc _
 have ja0:Bk ((w.alloc (.cells #[.int .i64 x0,.slice A1 x1.length c1,.slice A2 x2.length c2] 45)).alloc (.cells #[.int .i64 0,.slice none 0 0,.slice none 0 0] 45)) w.heap.size 45 #[.int .i64 x0,.slice A1 x1.length c1,.slice A2 x2.length c2]:=(Bk.new _ _ _).alloc _
 have jr0:Bk ((w.alloc (.cells #[.int .i64 x0,.slice A1 x1.length c1,.slice A2 x2.length c2] 45)).alloc (.cells #[.int .i64 0,.slice none 0 0,.slice none 0 0] 45)) (w.heap.size+1) 45 #[.int .i64 0,.slice none 0 0,.slice none 0 0]:=by simpa using (Bk.new (w.alloc (.cells #[.int .i64 x0,.slice A1 x1.length c1,.slice A2 x2.length c2] 45)) 45 #[.int .i64 0,.slice none 0 0,.slice none 0 0])
 have ga0_0:((w.alloc (.cells #[.int .i64 x0,.slice A1 x1.length c1,.slice A2 x2.length c2] 45)).alloc (.cells #[.int .i64 0,.slice none 0 0,.slice none 0 0] 45)).drew.cell? ⟨w.heap.size,0,none⟩=some (.int .i64 x0):=ja0.drew.cell 0
 have ga0_1:((w.alloc (.cells #[.int .i64 x0,.slice A1 x1.length c1,.slice A2 x2.length c2] 45)).alloc (.cells #[.int .i64 0,.slice none 0 0,.slice none 0 0] 45)).drew.cell? ⟨w.heap.size,1,none⟩=some (.slice A1 x1.length c1):=ja0.drew.cell 1
 have ga0_2:((w.alloc (.cells #[.int .i64 x0,.slice A1 x1.length c1,.slice A2 x2.length c2] 45)).alloc (.cells #[.int .i64 0,.slice none 0 0,.slice none 0 0] 45)).drew.cell? ⟨w.heap.size,2,none⟩=some (.slice A2 x2.length c2):=ja0.drew.cell 2
 go_enter Tryz.func107,Tryz.ntmps107
 go_wp2_with fail
 go_region_held3 (fun W=>W.cell? ⟨w.heap.size,0,none⟩=some (.int .i64 x0)∧W.cell? ⟨w.heap.size,1,none⟩=some (.slice A1 x1.length c1)∧W.cell? ⟨w.heap.size,2,none⟩=some (.slice A2 x2.length c2))
   (first | with_reducible exact ⟨ga0_0,ga0_1,ga0_2⟩ | with_reducible exact ⟨ga1_0,ga1_1,ga1_2⟩ | with_reducible exact ⟨ga2_0,ga2_1,ga2_2⟩ | (have q:=((ka1.far (p:=⟨w.heap.size+1,0,none⟩) (by dsimp only;omega) (.int .i64 x0)).far (p:=⟨w.heap.size+1,1,none⟩) (by dsimp only;omega) (.slice D1 x1.length d1)).far (p:=⟨w.heap.size+1,2,none⟩) (by dsimp only;omega) (.slice D2 x2.length d2);have q0:=q.cell 0;have q1:=q.cell 1;have q2:=q.cell 2;simp only [List.getElem?_toArray,List.getElem?_cons_zero,List.getElem?_cons_succ] at q0 q1 q2;with_reducible exact ⟨q0,q1,q2⟩) | (have q:=((ka2.far (p:=⟨w.heap.size+1,0,none⟩) (by dsimp only;omega) (.int .i64 x0)).far (p:=⟨w.heap.size+1,1,none⟩) (by dsimp only;omega) (.slice D1 x1.length d1)).far (p:=⟨w.heap.size+1,2,none⟩) (by dsimp only;omega) (.slice D2 x2.length d2);have q0:=q.cell 0;have q1:=q.cell 1;have q2:=q.cell 2;simp only [List.getElem?_toArray,List.getElem?_cons_zero,List.getElem?_cons_succ] at q0 q1 q2;with_reducible exact ⟨q0,q1,q2⟩))
   (first
     | (go_at_call 145;(with_reducible refine (c_CloneStringS x1 A1 c1 _ (b1.up good_S (by first | exact uu2 | exact vv0.drew)) hl1).mono ?_);rintro e w1 ⟨D1,d1,bl1,rfl,o1,nd1,u1⟩;have uu1:=Up.trans (by first | exact uu2 | exact vv0.drew) u1;have ka1:=Bk.up (by first | exact ka2 | exact ja0.drew) u1;have kr1:=Bk.up (by first | exact kr2 | exact jr0.drew) u1;have ga1_0:w1.cell? ⟨w.heap.size,0,none⟩=some (.int .i64 x0):=ka1.cell 0;have ga1_1:w1.cell? ⟨w.heap.size,1,none⟩=some (.slice A1 x1.length c1):=ka1.cell 1;have ga1_2:w1.cell? ⟨w.heap.size,2,none⟩=some (.slice A2 x2.length c2):=ka1.cell 2;have gr1_0:w1.cell? ⟨w.heap.size+1,0,none⟩=some (.int .i64 0):=kr1.cell 0;have gr1_1:w1.cell? ⟨w.heap.size+1,1,none⟩=some (.slice none 0 0):=kr1.cell 1;have gr1_2:w1.cell? ⟨w.heap.size+1,2,none⟩=some (.slice none 0 0):=kr1.cell 2;have fr1_0:=kr1.frozen 0;have fr1_1:=kr1.frozen 1;have fr1_2:=kr1.frozen 2)
     | (go_at_call 146;(with_reducible refine (c_ClonePutS x2 A2 c2 _ (b2.up good_Put (by first | exact uu1 | exact vv0.drew)) hl2).mono ?_);rintro e w2 ⟨D2,d2,bl2,rfl,o2,nd2,u2⟩;have uu2:=Up.trans (by first | exact uu1 | exact vv0.drew) u2;have ka2:=Bk.up (by first | exact ka1 | exact ja0.drew) u2;have kr2:=Bk.up (by first | exact kr1 | exact jr0.drew) u2;have ga2_0:w2.cell? ⟨w.heap.size,0,none⟩=some (.int .i64 x0):=ka2.cell 0;have ga2_1:w2.cell? ⟨w.heap.size,1,none⟩=some (.slice A1 x1.length c1):=ka2.cell 1;have ga2_2:w2.cell? ⟨w.heap.size,2,none⟩=some (.slice A2 x2.length c2):=ka2.cell 2;have gr2_0:w2.cell? ⟨w.heap.size+1,0,none⟩=some (.int .i64 0):=kr2.cell 0;have gr2_1:w2.cell? ⟨w.heap.size+1,1,none⟩=some (.slice none 0 0):=kr2.cell 1;have gr2_2:w2.cell? ⟨w.heap.size+1,2,none⟩=some (.slice none 0 0):=kr2.cell 2;have fr2_0:=kr2.frozen 0;have fr2_1:=kr2.frozen 1;have fr2_2:=kr2.frozen 2))
 · go_wp2_with fail
   have q1:=o1.up good_S u2
   have hk:=kr1.lt
   have z1:=(q1.set good_S (w.heap.size+1) 0 [.int .i64 x0,.slice D1 x1.length d1,.slice D2 x2.length d2] (by simp)).wide good_S (lo':=w.heap.size) (by simp;omega) (Nat.le_refl _)
   have z2:=(o2.set good_Put (w.heap.size+1) 0 [.int .i64 x0,.slice D1 x1.length d1,.slice D2 x2.length d2] (by omega)).wide good_Put (lo':=w.heap.size) (by omega) (Nat.le_refl _)
   have fu:=uu2.sets (g:=w.heap.size+1) (by omega) 0 [.int .i64 x0,.slice D1 x1.length d1,.slice D2 x2.length d2]
   have nn:(bl1++bl2).Nodup:=nodup_two (m:=w1.heap.size) nd1 nd2 (fun b hb=>(o1.in_ good_S b hb).2) (fun b hb=>(o2.in_ good_Put b hb).1)
   refine bodyPost_ret (v:=.agg #[.int .i64 x0,.slice D1 x1.length d1,.slice D2 x2.length d2]) (by simp [results,Tryz.results107,go_sem,gr2_0,gr2_1,gr2_2]) rfl ?_
   exact ⟨[.int .i64 x0,.slice D1 x1.length d1,.slice D2 x2.length d2],_,rfl,asmDisk b0 z1 z2,by simpa using nn,fu⟩
theorem cells3 {W:World} {g:Nat} {t:TypeId} {a b c:Value} (h:Bk W g t #[a,b,c]):W.cell? ⟨g,0,none⟩=some a∧W.cell? ⟨g,1,none⟩=some b∧W.cell? ⟨g,2,none⟩=some c:=⟨h.cell 0,h.cell 1,h.cell 2⟩
theorem c_l17Own (v:Value) (x:TDisk) (w:World) (h:AV shDisk w v x) (hn:shDisk.sz x≤1048576):Calls Tryz.prog 125 #[v] w (ToV shDisk x w):=by
 obtain ⟨cs,rfl,h⟩:=h
 obtain ⟨x0,x1,x2⟩:=x
 have ho:=openDisk h
 dsimp only at ho
 obtain ⟨A1,c1,A2,c2,rfl,b0,b1,b2⟩:=ho
 have hs:shDisk.sz (x0,x1,x2)=0+((shL shS).sz x1+((shL shPut).sz x2)):=rfl
 have hl1:x1.length≤1048576:=Nat.le_trans (Nat.le_add_right _ _) (show (shL shS).sz x1≤_ by omega)
 have hl2:x2.length≤1048576:=Nat.le_trans (Nat.le_add_right _ _) (show (shL shPut).sz x2≤_ by omega)
 clear hs hn
 obtain ⟨i1,hi1,hy0,hy1,hy2⟩:=info_parts cinfo_StringS
 obtain ⟨i2,hi2,hz0,hz1,hz2⟩:=info_parts cinfo_PutS
 have vv0:Up w ((w.alloc (.cells #[.int .i64 x0,.slice A1 x1.length c1,.slice A2 x2.length c2] 45)).alloc (.cells #[.int .i64 0,.slice none 0 0,.slice none 0 0] 45)):=((Up.refl _).alloc _).alloc _
 have ja0:Bk ((w.alloc (.cells #[.int .i64 x0,.slice A1 x1.length c1,.slice A2 x2.length c2] 45)).alloc (.cells #[.int .i64 0,.slice none 0 0,.slice none 0 0] 45)) w.heap.size 45 #[.int .i64 x0,.slice A1 x1.length c1,.slice A2 x2.length c2]:=(Bk.new _ _ _).alloc _
 have jr0:Bk ((w.alloc (.cells #[.int .i64 x0,.slice A1 x1.length c1,.slice A2 x2.length c2] 45)).alloc (.cells #[.int .i64 0,.slice none 0 0,.slice none 0 0] 45)) (w.heap.size+1) 45 #[.int .i64 0,.slice none 0 0,.slice none 0 0]:=by simpa using (Bk.new (w.alloc (.cells #[.int .i64 x0,.slice A1 x1.length c1,.slice A2 x2.length c2] 45)) 45 #[.int .i64 0,.slice none 0 0,.slice none 0 0])
 go_enter Tryz.func125,Tryz.ntmps125
 go_wp2_with fail
 go_region_held3 (fun W=>W.cell? ⟨w.heap.size,0,none⟩=some (.int .i64 x0)∧W.cell? ⟨w.heap.size,1,none⟩=some (.slice A1 x1.length c1)∧W.cell? ⟨w.heap.size,2,none⟩=some (.slice A2 x2.length c2))
   (first | (refine cells3 (t:=45) ?_;repeat (first | with_reducible exact ja0 | with_reducible exact ka1 | with_reducible exact ka2 | with_reducible refine Bk.alloc ?_ _ | with_reducible refine Bk.drew ?_ | (with_reducible refine Bk.far ?_ (by dsimp only;omega) _))))
   (first
     | (refine step_app_new good_S flat_S rfl _ _ _ 9 rfl i1 _ Tryz.underlying25 hi1 hy0 hy1 (by rfl) (by rfl) (by rfl) (b1.up good_S (by repeat (first | with_reducible exact vv0 | with_reducible exact uu1 | with_reducible exact uu2 | with_reducible refine Up.alloc ?_ _ | with_reducible refine Up.drew ?_))) (by rw [hy2];omega) ?_;intro D1 d1 bl1 w1 o1 nd1 u1
        have uu1:Up w w1:=Up.trans (by repeat (first | with_reducible exact vv0 | with_reducible exact uu2 | with_reducible refine Up.alloc ?_ _ | with_reducible refine Up.drew ?_)) u1
        have ka1:Bk w1 w.heap.size 45 #[.int .i64 x0,.slice A1 x1.length c1,.slice A2 x2.length c2]:=Bk.up (by repeat (first | with_reducible exact ja0 | with_reducible exact ka2 | with_reducible refine Bk.alloc ?_ _ | with_reducible refine Bk.drew ?_)) u1
        have kr1:Bk w1 (w.heap.size+1) 45 #[.int .i64 0,.slice none 0 0,.slice none 0 0]:=Bk.up (by repeat (first | with_reducible exact jr0 | with_reducible exact kr2 | with_reducible refine Bk.alloc ?_ _ | with_reducible refine Bk.drew ?_)) u1
        have gr1_0:w1.cell? ⟨w.heap.size+1,0,none⟩=some (.int .i64 0):=kr1.cell 0;have gr1_1:w1.cell? ⟨w.heap.size+1,1,none⟩=some (.slice none 0 0):=kr1.cell 1;have gr1_2:w1.cell? ⟨w.heap.size+1,2,none⟩=some (.slice none 0 0):=kr1.cell 2;have fr1_0:=kr1.frozen 0;have fr1_1:=kr1.frozen 1;have fr1_2:=kr1.frozen 2)
     | (refine step_app_new good_Put flat_Put rfl _ _ _ 151 rfl i2 _ Tryz.underlying43 hi2 hz0 hz1 (by rfl) (by rfl) (by rfl) (b2.up good_Put (by repeat (first | with_reducible exact vv0 | with_reducible exact uu1 | with_reducible exact uu2 | with_reducible refine Up.alloc ?_ _ | with_reducible refine Up.drew ?_))) (by rw [hz2];omega) ?_;intro D2 d2 bl2 w2 o2 nd2 u2
        have uu2:Up w w2:=Up.trans (by repeat (first | with_reducible exact vv0 | with_reducible exact uu1 | with_reducible refine Up.alloc ?_ _ | with_reducible refine Up.drew ?_)) u2
        have ka2:Bk w2 w.heap.size 45 #[.int .i64 x0,.slice A1 x1.length c1,.slice A2 x2.length c2]:=Bk.up (by repeat (first | with_reducible exact ja0 | with_reducible exact ka1 | with_reducible refine Bk.alloc ?_ _ | with_reducible refine Bk.drew ?_)) u2
        have kr2:Bk w2 (w.heap.size+1) 45 #[.int .i64 0,.slice none 0 0,.slice none 0 0]:=Bk.up (by repeat (first | with_reducible exact jr0 | with_reducible exact kr1 | with_reducible refine Bk.alloc ?_ _ | with_reducible refine Bk.drew ?_)) u2
        have gr2_0:w2.cell? ⟨w.heap.size+1,0,none⟩=some (.int .i64 0):=kr2.cell 0;have gr2_1:w2.cell? ⟨w.heap.size+1,1,none⟩=some (.slice none 0 0):=kr2.cell 1;have gr2_2:w2.cell? ⟨w.heap.size+1,2,none⟩=some (.slice none 0 0):=kr2.cell 2;have fr2_0:=kr2.frozen 0;have fr2_1:=kr2.frozen 1;have fr2_2:=kr2.frozen 2))
 all_goals
   go_wp2_with fail
   have t12:Up w1 w2:=Up.trans (by repeat (first | with_reducible exact Up.refl w1 | with_reducible refine Up.alloc ?_ _ | with_reducible refine Up.drew ?_)) u2
   have p2:=o2.wide good_Put (lo':=w1.heap.size) (by simp) (Nat.le_refl _)
   have q1:=(o1.wide good_S (lo':=w.heap.size+1+1) (by simp) (Nat.le_refl _)).up good_S t12
   have hk:=kr1.lt
   have z1:=(q1.set good_S (w.heap.size+1) 0 [.int .i64 x0,.slice D1 x1.length d1,.slice D2 x2.length d2] (by omega)).wide good_S (lo':=w.heap.size) (by omega) (Nat.le_refl _)
   have z2:=(p2.set good_Put (w.heap.size+1) 0 [.int .i64 x0,.slice D1 x1.length d1,.slice D2 x2.length d2] (by omega)).wide good_Put (lo':=w.heap.size) (by omega) (Nat.le_refl _)
   have fu:=uu2.sets (g:=w.heap.size+1) (by omega) 0 [.int .i64 x0,.slice D1 x1.length d1,.slice D2 x2.length d2]
   have nn:(bl1++bl2).Nodup:=nodup_two (m:=w1.heap.size) nd1 nd2 (fun b hb=>(o1.in_ good_S b hb).2) (fun b hb=>(p2.in_ good_Put b hb).1)
   refine bodyPost_ret (v:=.agg #[.int .i64 x0,.slice D1 x1.length d1,.slice D2 x2.length d2]) (by simp [results,Tryz.results125,go_sem,gr2_0,gr2_1,gr2_2]) rfl ?_
   exact ⟨[.int .i64 x0,.slice D1 x1.length d1,.slice D2 x2.length d2],_,rfl,asmDisk b0 z1 z2,by simpa using nn,fu⟩
end Go.Proofs.YthdnicfbnihoaaaGreatDoor
namespace Go.Proofs.YthdnicfbnihoaaaGreatDoor
open Go.RowKit
set_option linter.unusedVariables false
def badSec (wide:Int) (s:ByteArray):Bool:=(s.size:Int) != wide
def badPut (n wide:Int) (p:TPut):Bool:=!inB p.1 0 (n - 1) || (p.2.size:Int) != wide
def diskOk (d:TDisk):Bool:=inB d.1 1 2000 && inB d.2.1.length 1 400 && !decide ((400:Int)<d.2.2.length) && !d.2.1.any (badSec d.1) && !d.2.2.any (badPut d.2.1.length d.1)
theorem app_two (a b:Value):#[a]++#[b]=#[a,b]:=by simp
theorem bool_end {b c:Bool} {w w':World} (h:Hid (b=c)) (u:Up w w'):BoolP b w (.returned (.bool c)) w':=⟨by rw [h.out],u⟩
theorem c_countS (xs:List ByteArray) (A:Option Addr) (c:Nat) (w:World) (h:xs.length≤9223372036854775807):Calls Tryz.prog 104 #[.slice A xs.length c] w fun e w'=>e=.returned (.int .i64 xs.length)∧w=w':=by
 go_enter Tryz.func104,Tryz.ntmps104
 go_wp2
 go_ret
 exact ⟨rfl,rfl⟩
theorem c_has (v:Value) (x:TDisk) (n:Int) (w:World) (h:AV shDisk w v x):Calls Tryz.prog 98 #[v,.int .i64 n] w (BoolP (inB n 0 (x.2.1.length - 1)) w):=by
 obtain ⟨cs,rfl,h⟩:=h
 obtain ⟨x0,x1,x2⟩:=x
 have ho:=openDisk h
 dsimp only at ho
 obtain ⟨A1,c1,A2,c2,rfl,b0,b1,b2⟩:=ho
 have hl:=b1.len_le
 go_enter Tryz.func98,Tryz.ntmps98
 go_wp2_with fail
 refine (c_countS _ _ _ _ hl).mono ?_
 rintro e w1 ⟨rfl,rfl⟩
 go_wp2_with fail
 refine (within_any _ _ _ _).mono ?_
 rintro e w1 ⟨rfl,rfl⟩
 go_wp2_with fail
 go_ret
 exact ⟨rfl,(Up.refl _).alloc _⟩
theorem c_DiskOk1 (B:Nat) (wide:Int) (s:ByteArray) (w:World) (hs:s.size≤9223372036854775807) (hc:w.cell? ⟨B,0,none⟩=some (.int .i64 wide)) :
   Calls Tryz.prog 137 #[.string s,.pointer (some ⟨B,0,none⟩)] w (BoolP (badSec wide s) w):=by
 go_enter Tryz.func137,Tryz.ntmps137
 go_wp2
 go_ret
 exact ⟨rfl,Up.refl _⟩
theorem c_DiskOk2 (B:Nat) (v:Value) (p:TPut) (d:TDisk) (cs:List Value) (t:TypeId) (w:World) (h:AV shPut w v p) (hB:Bk w B t cs.toArray) (hd:AV shDisk w (.agg cs.toArray) d) :
   Calls Tryz.prog 139 #[v,.pointer (some ⟨B,0,none⟩)] w (BoolP (badPut d.2.1.length d.1 p) w):=by
 obtain ⟨ps,rfl,h⟩:=h
 obtain ⟨p0,p1⟩:=p
 have ho:=openPut h
 dsimp only at ho
 obtain ⟨rfl,b0,b1⟩:=ho
 have hd':=hd
 obtain ⟨ds,hds,hd⟩:=hd
 injection hds with hds
 obtain rfl:cs=ds:=congrArg Array.toList hds
 obtain ⟨x0,x1,x2⟩:=d
 have hdo:=openDisk hd
 dsimp only at hdo
 obtain ⟨A1,c1,A2,c2,rfl,d0,d1,d2⟩:=hdo
 have g0:w.cell? ⟨B,0,none⟩=some (.int .i64 x0):=hB.cell 0
 have g1:w.cell? ⟨B,1,none⟩=some (.slice A1 x1.length c1):=hB.cell 1
 have g2:w.cell? ⟨B,2,none⟩=some (.slice A2 x2.length c2):=hB.cell 2
 have hlt:=hB.lt
 unfold maxLen at b1
 have u0:Up w (w.alloc (.cells #[.int .i64 p0,.string p1] 151)):=(Up.refl _).alloc _
 go_enter Tryz.func139,Tryz.ntmps139
 go_wp2_with fail
 refine (c_has _ (x0,x1,x2) _ _ (hd'.up good_Disk u0)).mono ?_
 rintro e w1 ⟨rfl,u1⟩
 dsimp only
 have k0:w1.cell? ⟨B,0,none⟩=some (.int .i64 x0):=((hB.up u0).up u1).cell 0
 have kp:w1.cell? ⟨w.heap.size,1,none⟩=some (.string p1):=((Bk.new w 151 #[.int .i64 p0,.string p1]).up u1).cell 1
 cases hq:inB p0 0 (x1.length - 1)
 · have HB:Hid (badPut x1.length x0 (p0,p1)=true):=by unfold Hid badPut;simp [hq]
   clear hq
   go_wp2_with fail
   go_ret
   exact bool_end HB (u0.trans u1)
 · have HB:Hid (badPut x1.length x0 (p0,p1)=((p1.size:Int) != x0)):=by unfold Hid badPut;simp [hq]
   clear hq
   go_wp2_with fail
   go_ret
   exact bool_end HB (u0.trans u1)
theorem eg_DiskOk1:∀args w,(callFunc 137 args).run Tryz.prog w=.ok (.enter 137 args) w:=enters_of Tryz.func137 (by kernel_rfl) rfl
theorem eg_DiskOk2:∀args w,(callFunc 139 args).run Tryz.prog w=.ok (.enter 139 args) w:=enters_of Tryz.func139 (by kernel_rfl) rfl
theorem c_implDiskOk (v:Value) (x:TDisk) (w:World) (h:AV shDisk w v x):Calls Tryz.prog 94 #[v] w (BoolP (diskOk x) w):=by
 have hv:=h
 obtain ⟨cs,rfl,h⟩:=h
 obtain ⟨x0,x1,x2⟩:=x
 have ho:=openDisk h
 dsimp only at ho
 obtain ⟨A1,c1,A2,c2,rfl,b0,b1,b2⟩:=ho
 have hl1:=b1.len_le
 have hl2:=b2.len_le
 have u0:Up w (w.alloc (.cells #[.int .i64 x0,.slice A1 x1.length c1,.slice A2 x2.length c2] 45)):=(Up.refl _).alloc _
 have k0:Bk (w.alloc (.cells #[.int .i64 x0,.slice A1 x1.length c1,.slice A2 x2.length c2] 45)) w.heap.size 45 #[.int .i64 x0,.slice A1 x1.length c1,.slice A2 x2.length c2]:=Bk.new _ _ _
 cases h1:inB x0 1 2000
 · have HD:Hid (diskOk (x0,x1,x2)=false):=by unfold Hid diskOk;simp [h1]
   go_enter Tryz.func94,Tryz.ntmps94
   go_wp2_with (first | (go_at_call 51;refine (within_any _ _ _ _).mono ?_;rintro e w' ⟨rfl,rfl⟩) | (go_at_call 104;refine (c_countS _ _ _ _ hl1).mono ?_;rintro e w' ⟨rfl,rfl⟩))
   go_ret
   exact bool_end HD u0
 cases h2:inB x1.length 1 400
 · have HD:Hid (diskOk (x0,x1,x2)=false):=by unfold Hid diskOk;simp [h2]
   go_enter Tryz.func94,Tryz.ntmps94
   go_wp2_with (first | (go_at_call 51;refine (within_any _ _ _ _).mono ?_;rintro e w' ⟨rfl,rfl⟩) | (go_at_call 104;refine (c_countS _ _ _ _ hl1).mono ?_;rintro e w' ⟨rfl,rfl⟩))
   go_ret
   exact bool_end HD u0
 by_cases h3:(400:Int)<x2.length
 · have HD:Hid (diskOk (x0,x1,x2)=false):=by unfold Hid diskOk;simp [h3]
   go_enter Tryz.func94,Tryz.ntmps94
   go_wp2_with (first | (go_at_call 51;refine (within_any _ _ _ _).mono ?_;rintro e w' ⟨rfl,rfl⟩) | (go_at_call 104;refine (c_countS _ _ _ _ hl1).mono ?_;rintro e w' ⟨rfl,rfl⟩))
   go_ret
   exact bool_end HD u0
 have HD:Hid (diskOk (x0,x1,x2)=(!x1.any (badSec x0) && !x2.any (badPut x1.length x0))):=by unfold Hid diskOk;simp [h1,h2,h3]
 have h3':decide ((400:Int)<x2.length)=false:=by simpa using h3
 go_enter Tryz.func94,Tryz.ntmps94
 go_wp2_with (first | (go_at_call 51;refine (within_any _ _ _ _).mono ?_;rintro e w' ⟨rfl,rfl⟩) | (go_at_call 104;refine (c_countS _ _ _ _ hl1).mono ?_;rintro e w' ⟨rfl,rfl⟩))
 have hf1:∀(W:World) (s:ByteArray),s∈x1→Up (w.alloc (.cells #[.int .i64 x0,.slice A1 x1.length c1,.slice A2 x2.length c2] 45)) W→Calls Tryz.prog 137 (#[.string s]++#[.pointer (some ⟨w.heap.size,0,none⟩)]) W (BoolP (badSec x0 s) W):=fun W s hs hW=>by
   rw [app_two]
   refine c_DiskOk1 _ x0 s W ?_ ((k0.up hW).cell 0)
   obtain ⟨i,hi,rfl⟩:=List.getElem_of_mem hs
   exact ((b1.at_S hi).elim fun g h=>h.elim fun off h=>h.2.2.2.2)
 refine (c_ContainsFuncString 137 _ eg_DiskOk1 (badSec x0) _ _ x1 _ (b1.up good_S u0) hf1).mono ?_
 rintro e w1 ⟨rfl,u1⟩
 have k1:=k0.up u1
 have uu1:=u0.trans u1
 have g2:w1.cell? ⟨w.heap.size,2,none⟩=some (.slice A2 x2.length c2):=k1.cell 2
 cases h4:x1.any (badSec x0)
 · go_wp2_with fail
   have hf2:∀(W:World) (v:Value) (p:TPut),p∈x2→Up w1 W→AV shPut W v p→Calls Tryz.prog 139 (#[v]++#[.pointer (some ⟨w.heap.size,0,none⟩)]) W (BoolP (badPut x1.length x0 p) W):=fun W v p hp hW hav=>by
     rw [app_two]
     exact c_DiskOk2 _ v p (x0,x1,x2) _ _ W hav (k1.up hW) (hv.up good_Disk (uu1.trans hW))
   refine (c_ContainsFuncPut 139 _ eg_DiskOk2 (badPut x1.length x0) _ _ x2 _ (b2.up good_Put uu1) hf2).mono ?_
   rintro e w2 ⟨rfl,u2⟩
   have HE:Hid (diskOk (x0,x1,x2)=!x2.any (badPut x1.length x0)):=by unfold Hid;rw [HD.out,h4];simp
   clear h4
   go_wp2_with fail
   go_ret
   exact bool_end HE (uu1.trans u2)
 · have HE:Hid (diskOk (x0,x1,x2)=false):=by unfold Hid;rw [HD.out,h4];simp
   clear h4
   go_wp2_with fail
   go_ret
   exact bool_end HE uu1
theorem c_specDiskOk (v:Value) (x:TDisk) (w:World) (h:AV shDisk w v x):Calls Tryz.prog 77 #[v] w (BoolP (diskOk x) w):=by
 have hv:=h
 obtain ⟨cs,rfl,h⟩:=h
 obtain ⟨x0,x1,x2⟩:=x
 have ho:=openDisk h
 dsimp only at ho
 obtain ⟨A1,c1,A2,c2,rfl,b0,b1,b2⟩:=ho
 have hl1:=b1.len_le
 have hl2:=b2.len_le
 have u0:Up w (w.alloc (.cells #[.int .i64 x0,.slice A1 x1.length c1,.slice A2 x2.length c2] 45)):=(Up.refl _).alloc _
 have k0:Bk (w.alloc (.cells #[.int .i64 x0,.slice A1 x1.length c1,.slice A2 x2.length c2] 45)) w.heap.size 45 #[.int .i64 x0,.slice A1 x1.length c1,.slice A2 x2.length c2]:=Bk.new _ _ _
 cases h1:inB x0 1 2000
 · have HD:Hid (diskOk (x0,x1,x2)=false):=by unfold Hid diskOk;simp [h1]
   go_enter Tryz.func77,Tryz.ntmps77
   go_wp2_with (go_at_call 39;refine (in_any _ _ _ _).mono ?_;rintro e w' ⟨rfl,rfl⟩)
   go_ret
   exact bool_end HD u0
 by_cases h2:(x1.length:Int)<1
 · have HD:Hid (diskOk (x0,x1,x2)=false):=by unfold Hid diskOk;simp only [inB_f.2 (show ¬ (1≤(x1.length:Int)∧(x1.length:Int)≤400) by omega)];simp
   go_enter Tryz.func77,Tryz.ntmps77
   go_wp2_with (go_at_call 39;refine (in_any _ _ _ _).mono ?_;rintro e w' ⟨rfl,rfl⟩)
   go_ret
   exact bool_end HD u0
 have h2':decide ((x1.length:Int)<1)=false:=by simpa using h2
 by_cases h2b:(400:Int)<x1.length
 · have HD:Hid (diskOk (x0,x1,x2)=false):=by unfold Hid diskOk;simp only [inB_f.2 (show ¬ (1≤(x1.length:Int)∧(x1.length:Int)≤400) by omega)];simp
   go_enter Tryz.func77,Tryz.ntmps77
   go_wp2_with (go_at_call 39;refine (in_any _ _ _ _).mono ?_;rintro e w' ⟨rfl,rfl⟩)
   go_ret
   exact bool_end HD u0
 have h2b':decide ((400:Int)<x1.length)=false:=by simpa using h2b
 by_cases h3:(400:Int)<x2.length
 · have HD:Hid (diskOk (x0,x1,x2)=false):=by unfold Hid diskOk;simp [h3]
   go_enter Tryz.func77,Tryz.ntmps77
   go_wp2_with (go_at_call 39;refine (in_any _ _ _ _).mono ?_;rintro e w' ⟨rfl,rfl⟩)
   go_ret
   exact bool_end HD u0
 have h3':decide ((400:Int)<x2.length)=false:=by simpa using h3
 have hin:inB x1.length 1 400=true:=inB_t.2 (by omega)
 have HD:Hid (diskOk (x0,x1,x2)=(!x1.any (badSec x0) && !x2.any (badPut x1.length x0))):=by unfold Hid diskOk;simp [h1,hin,h3]
 clear hin
 go_enter Tryz.func77,Tryz.ntmps77
 go_wp2_with (go_at_call 39;refine (in_any _ _ _ _).mono ?_;rintro e w' ⟨rfl,rfl⟩)
 go_loopw [4] (fun i wr=>∃k:Nat,k≤x1.length∧i=.int .i64 k∧Hid ((x1.take k).any (badSec x0)=false)∧Up w wr∧Bk wr w.heap.size 45 #[.int .i64 x0,.slice A1 x1.length c1,.slice A2 x2.length c2]) (fun i _=>x1.length - (intOf i).toNat)
 case atStart=>exact ⟨0,Nat.zero_le _,rfl,rfl,u0,k0⟩
 case round =>
   obtain ⟨k,hk,rfl,HT,hu,kb⟩:=hrel
   have g0:wr.cell? ⟨w.heap.size,0,none⟩=some (.int .i64 x0):=kb.cell 0
   have g1:wr.cell? ⟨w.heap.size,1,none⟩=some (.slice A1 x1.length c1):=kb.cell 1
   have g2:wr.cell? ⟨w.heap.size,2,none⟩=some (.slice A2 x2.length c2):=kb.cell 2
   by_cases hlt:k<x1.length
   · obtain ⟨g,off,rfl,_,_,hc,hb⟩:=(b1.up good_S hu).at_S hlt
     cases hq:((x1[k].size:Int) != x0)
     · have HN:Hid ((x1.take (k+1)).any (badSec x0)=false):=by unfold Hid;rw [any_take_succ _ x1 k hlt,HT.out];simpa [badSec] using hq
       go_wp2
       go_quiet (fail)
       go_wp2
       go_roundw
       case rel=>exact ⟨k+1,by omega,by go_num,HN,hu.drewN _,kb.drewN _⟩
       case measure=>simp [intOf];omega
     · have HN:Hid (diskOk (x0,x1,x2)=false):=by unfold Hid;rw [HD.out,any_at _ x1 k hlt (show badSec x0 x1[k]=true from hq)];simp
       go_wp2
       go_quiet (fail)
       go_wp2
       go_ret
       exact bool_end HN (hu.drewN _)
   · have HS := Lib.hid (any_all _ x1 k HT.out (by omega))
     obtain ⟨wo,rfl⟩:∃wo:World,wo=wr:=⟨_,rfl⟩
     go_wp2_with fail
     go_loopw [5] (fun i wr=>∃k:Nat,k≤x2.length∧i=.int .i64 k∧Hid ((x2.take k).any (badPut x1.length x0)=false)∧Up w wr∧Bk wr w.heap.size 45 #[.int .i64 x0,.slice A1 x1.length c1,.slice A2 x2.length c2]) (fun i _=>x2.length - (intOf i).toNat)
     case atStart=>exact ⟨0,Nat.zero_le _,rfl,rfl,hu,kb⟩
     case round =>
       clear g0 g1 g2 hu kb
       obtain ⟨k,hk,rfl,HT,hu,kb⟩:=hrel
       have g0:wr.cell? ⟨w.heap.size,0,none⟩=some (.int .i64 x0):=kb.cell 0
       have g1:wr.cell? ⟨w.heap.size,1,none⟩=some (.slice A1 x1.length c1):=kb.cell 1
       have g2:wr.cell? ⟨w.heap.size,2,none⟩=some (.slice A2 x2.length c2):=kb.cell 2
       by_cases hlt:k<x2.length
       · obtain ⟨g,off,rfl,_,_,hc0,hc1,e0,e1,_⟩:=atPut (b2.up good_Put hu) hlt
         unfold maxLen at e1
         cases hq:inB x2[k].1 0 (x1.length - 1)
         · have HN:Hid (diskOk (x0,x1,x2)=false):=by unfold Hid;rw [HD.out,any_at _ x2 k hlt (show badPut x1.length x0 x2[k]=true by unfold badPut;rw [hq];rfl)];simp
           go_wp2
           go_quiet ((go_at_call 39;exact Calls.quiet_of_same ((in_any _ _ _ _).mono (fun _ _ h=>⟨h.1,h.2.symm⟩))))
           go_wp2
           go_ret
           exact bool_end HN (hu.drewN _)
         · cases hp:((x2[k].2.size:Int) != x0)
           · have HN:Hid ((x2.take (k+1)).any (badPut x1.length x0)=false):=by unfold Hid;rw [any_take_succ _ x2 k hlt,HT.out];unfold badPut;rw [hq,hp];rfl
             go_wp2
             go_quiet ((go_at_call 39;exact Calls.quiet_of_same ((in_any _ _ _ _).mono (fun _ _ h=>⟨h.1,h.2.symm⟩))))
             go_wp2
             go_roundw
             case rel=>exact ⟨k+1,by omega,by go_num,HN,hu.drewN _,kb.drewN _⟩
             case measure=>simp [intOf];omega
           · have HN:Hid (diskOk (x0,x1,x2)=false):=by unfold Hid;rw [HD.out,any_at _ x2 k hlt (show badPut x1.length x0 x2[k]=true by unfold badPut;rw [hp];simp)];simp
             go_wp2
             go_quiet ((go_at_call 39;exact Calls.quiet_of_same ((in_any _ _ _ _).mono (fun _ _ h=>⟨h.1,h.2.symm⟩))))
             go_wp2
             go_ret
             exact bool_end HN (hu.drewN _)
       · have HN:Hid (diskOk (x0,x1,x2)=true):=by unfold Hid;rw [HD.out,HS.out,any_all _ x2 k HT.out (by omega)];rfl
         go_wp2
         go_ret
         exact bool_end HN hu
end Go.Proofs.YthdnicfbnihoaaaGreatDoor
namespace Go.Proofs.YthdnicfbnihoaaaGreatDoor
open Go.RowKit
set_option linter.unusedVariables false
set_option linter.unusedSimpArgs false
theorem Bk.but {w w':World} {g g':Nat} {t:TypeId} {C:Array Value} (h:Bk w g t C) (k:But g' w w') (hg:g≠g'):Bk w' g t C:=(k.block g hg).trans h
theorem cell_far {w:World} {p a:Addr} (u:Value) (h:a.block≠p.block):(w.setCell p u).cell? a=w.cell? a:=World.cell?_of_block (Below.heap_setCell _ _ _ _ h)
def flushS (l:List ByteArray) (ps:List TPut):List ByteArray:=ps.foldl (fun l p=>l.set p.1.toNat p.2) l
theorem flushS_len (ps:List TPut):∀l:List ByteArray,(flushS l ps).length=l.length:=by
 induction ps with
 | nil=>intro l;rfl
 | cons p ps ih=>intro l;show (flushS (l.set p.1.toNat p.2) ps).length=_;rw [ih];simp
theorem flushS_take (l:List ByteArray) (ps:List TPut) (k:Nat) (h:k<ps.length):flushS l (ps.take (k+1))=(flushS l (ps.take k)).set ps[k].1.toNat ps[k].2:=by
 unfold flushS
 rw [List.take_succ_eq_append_getElem h,List.foldl_append]
 rfl
theorem SO.setS {w:World} {lo hi:Nat} {A:Option Addr} {c:Nat} {xs:List ByteArray} {bl:List Nat} (h:SO shS w lo hi A c xs bl) (nd:bl.Nodup) {m:Nat} (hm:m<xs.length) :
   ∃ (g off:Nat) (o:Value),A=some ⟨g,off,none⟩∧g∈bl∧lo≤g∧g<hi∧g<w.heap.size∧w.cell? ⟨g,off+m,none⟩=some o∧w.frozen? ⟨g,off+m,none⟩=false ∧
     ∀s:ByteArray,s.size≤maxLen→SO shS (w.setCell ⟨g,off+m,none⟩ (.string s)) lo hi A c (xs.set m s) bl:=by
 obtain ⟨g,off,C,t,b,cs,hA,h1,h2,hbk,hl,hc,ho,hgb,hgn,_,_,hput⟩:=h.focus good_S nd (List.getElem?_eq_getElem hm)
 obtain ⟨⟨rfl,hsz⟩,rfl⟩:=ho
 have h0:C[off+m]?=some (.string xs[m]):=by have:=hc 0 (by decide);simpa [shS] using this
 refine ⟨g,off,.string xs[m],hA,hgb,h1,h2,hbk.lt,(hbk.cell _).trans h0,hbk.frozen _,fun s hs=>?_⟩
 refine hput _ (C.setIfInBounds (off+m) (.string s)) [.string s] s (hbk.set _ _) (fun j hj=>?_) (fun p hp=>?_) ⟨⟨rfl,hs⟩,rfl⟩ (fun y _ hy _=>Below.heap_setCell _ _ _ _ hy)
 · obtain rfl:j=0:=by have:j<1:=hj;omega
   exact set_same (by simp [shS]) h0
 · exact set_ne (by simp only [shS] at hp;omega)
theorem cells12G {W:World} {g h o:Nat} {t t':TypeId} {C:Array Value} {b p q:Value} (hC:C[o+1]?=some b) (k:Bk W g t C) (k':Bk W h t' #[p,q]):W.cell? ⟨g,o+1,none⟩=some b∧W.cell? ⟨h,0,none⟩=some p∧W.cell? ⟨h,1,none⟩=some q:=⟨(k.cell _).trans hC,k'.cell 0,k'.cell 1⟩
theorem c_flush (B oB lo:Nat) (tB:TypeId) (CB:Array Value) (x1:List ByteArray) (x2:List TPut) (D1 D2:Option Addr) (d1 d2:Nat) (bl1 bl2:List Nat) (w:World)
   (hB:Bk w B tB CB) (hC1:CB[oB+1]?=some (.slice D1 x1.length d1)) (hC2:CB[oB+2]?=some (.slice D2 x2.length d2)) (h1:SO shS w lo w.heap.size D1 d1 x1 bl1) (h2:SO shPut w lo w.heap.size D2 d2 x2 bl2) (nd:(bl1++bl2).Nodup) (hBn:B ∉ bl1)
   (hp:∀p∈x2,0≤p.1∧p.1<x1.length) :
   Calls Tryz.prog 56 #[.pointer (some ⟨B,oB,none⟩)] w fun e w'=>e=.returned (.tuple #[])∧Bk w' B tB (CB.setIfInBounds (oB+2) (.slice none 0 0))∧SO shS w' lo w'.heap.size D1 d1 (flushS x1 x2) bl1∧Only (B::bl1) w w':=by
 have hl2:=(h2.rep good_Put).len_le
 have c0:w.cell? ⟨B,oB+2,none⟩=some (.slice D2 x2.length d2):=(hB.cell _).trans hC2
 go_enter Tryz.func56,Tryz.ntmps56
 go_wp2_with fail
 go_loopw [9] (fun i wr=>∃(k:Nat),k≤x2.length∧i=.int .i64 k∧Bk wr B tB CB∧SO shS wr lo wr.heap.size D1 d1 (flushS x1 (x2.take k)) bl1∧SO shPut wr lo wr.heap.size D2 d2 x2 bl2∧Only (B::bl1) w wr) (fun i _=>x2.length - (intOf i).toNat)
 case atStart=>exact ⟨0,Nat.zero_le _,rfl,hB,h1,h2,Only.refl _ _⟩
 case round =>
   obtain ⟨k,hk,rfl,hBr,hs1,hs2,hon⟩:=hrel
   have nd1:bl1.Nodup:=(List.nodup_append.1 nd).1
   have hdis:∀y∈bl1,y ∉ bl2:=fun y hy hy2=>(List.nodup_append.1 nd).2.2 y hy y hy2 rfl
   have hin1:=hs1.in_ good_S
   by_cases hlt:k<x2.length
   · obtain ⟨g2,off2,rfl,_,hg2,hc0,hc1,b0,b1,_⟩:=atPut (hs2.rep good_Put) hlt
     obtain ⟨p0,p1⟩:=hp x2[k] (List.getElem_mem hlt)
     obtain ⟨m,hm⟩:∃m:Nat,x2[k].1=(m:Int):=⟨x2[k].1.toNat,by omega⟩
     have hmx:m<x1.length:=by omega
     have hmk:m<(flushS x1 (x2.take k)).length:=by rw [flushS_len];exact hmx
     obtain ⟨g,off,o,rfl,hgb,hg1,_,hg3,hgc,hgf,hset⟩:=hs1.setS nd1 hmk
     rw [hm] at hc0
     have hl1:=(hs1.rep good_S).len_le
     rw [flushS_len] at hl1
     have hBl:=hBr.lt
     have hx:flushS x1 (x2.take (k+1))=(flushS x1 (x2.take k)).set m x2[k].2:=by rw [flushS_take _ _ _ hlt,hm];rfl
     have cb:(wr.alloc (.cells #[.int .i64 m,.string x2[k].2] 151)).cell? ⟨B,oB+1,none⟩=some (.slice (some ⟨g,off,none⟩) x1.length d1):=((hBr.alloc _).cell _).trans hC1
     have gc:(wr.alloc (.cells #[.int .i64 m,.string x2[k].2] 151)).cell? ⟨g,off+m,none⟩=some o:=by rw [World.cell?_of_block (w:=wr) (Below.heap_alloc wr _ g hg3)];exact hgc
     have hBg:B≠g:=fun e=>hBn (e ▸ hgb)
     have hBv:=hBr.alloc (.cells #[.int .i64 m,.string x2[k].2] 151)
     have hq:=Bk.new wr 151 #[.int .i64 m,.string x2[k].2]
     have gf:(wr.alloc (.cells #[.int .i64 m,.string x2[k].2] 151)).frozen? ⟨g,off+m,none⟩=false:=by rw [World.frozen?_of_block (w:=wr) (Below.heap_alloc wr _ g hg3)];exact hgf
     have hsz:(wr.setCell ⟨g,off+m,none⟩ (.string x2[k].2)).heap.size=wr.heap.size:=by simp [World.setCell]
     have hq2:Bk ((wr.setCell ⟨g,off+m,none⟩ (.string x2[k].2)).alloc (.cells #[.int .i64 m,.string x2[k].2] 151)) wr.heap.size 151 #[.int .i64 m,.string x2[k].2]:=by have:=Bk.new (wr.setCell ⟨g,off+m,none⟩ (.string x2[k].2)) 151 #[.int .i64 m,.string x2[k].2];rw [hsz] at this;exact this
     have hm0:(0:Int)≤(m:Int):=by omega
     have hm1:(m:Int)<(x1.length:Int):=by omega
     go_wp2_with fail
     go_region_held3 (fun W=>W.cell? ⟨B,oB+1,none⟩=some (.slice (some ⟨g,off,none⟩) x1.length d1)∧W.cell? ⟨wr.heap.size,0,none⟩=some (.int .i64 m)∧W.cell? ⟨wr.heap.size,1,none⟩=some (.string x2[k].2))
       (first | (refine cells12G (t:=tB) (t':=151) (C:=CB) hC1 ?_ ?_ <;> repeat (first | with_reducible exact hBv | with_reducible exact hq | with_reducible exact hq2 | with_reducible exact hBr | with_reducible refine Bk.drew ?_ | with_reducible refine Bk.alloc ?_ _ | with_reducible refine Bk.far ?_ (by dsimp only;omega) _)))
       (first | fail)
     go_wp2_with fail
     go_roundw
     case rel =>
       have hso:=hset x2[k].2 b1
       rw [← hx] at hso
       have hu:Up (wr.setCell ⟨g,off+m,none⟩ (.string x2[k].2)) ((wr.setCell ⟨g,off+m,none⟩ (.string x2[k].2)).alloc (.cells #[.int .i64 m,.string x2[k].2] 151)).drew:=((Up.refl _).alloc _).drew
       have hso':SO shS (wr.setCell ⟨g,off+m,none⟩ (.string x2[k].2)) lo (wr.setCell ⟨g,off+m,none⟩ (.string x2[k].2)).heap.size (some ⟨g,off,none⟩) d1 (flushS x1 (x2.take (k+1))) bl1:=by rw [hsz];exact hso
       have hs2':SO shPut (wr.setCell ⟨g,off+m,none⟩ (.string x2[k].2)) lo (wr.setCell ⟨g,off+m,none⟩ (.string x2[k].2)).heap.size (some ⟨g2,off2,none⟩) d2 x2 bl2:=by rw [hsz];exact hs2.keep good_Put (fun b hb=>Below.heap_setCell _ _ _ _ (fun e=>hdis g hgb (by have e':b=g:=e;rw [← e'];exact hb)))
       exact ⟨k+1,by omega,by go_num,(hBr.far (p:=⟨g,off+m,none⟩) (by dsimp only;omega) _).up hu,hso'.up good_S hu,hs2'.up good_Put hu,(hon.but (But.set wr g (off+m) _) (List.mem_cons_of_mem _ hgb)).up hu⟩
     case measure=>simp [intOf];omega
   · obtain rfl:k=x2.length:=by omega
     rw [List.take_length] at hs1
     have c2:wr.cell? ⟨B,oB+2,none⟩=some (.slice D2 x2.length d2):=(hBr.cell _).trans hC2
     have f2:=hBr.frozen (oB+2)
     have hBl:=hBr.lt
     go_wp2_with fail
     refine bodyPost_end (v:=.tuple #[]) (by simp [results,Tryz.results56,go_sem]) (by rfl) ?_
     have hb2:=But.set wr B (oB+2) (.slice none 0 0)
     refine ⟨rfl,hBr.set (oB+2) _,?_,hon.but hb2 (List.mem_cons_self ..)⟩
     rw [hb2.size]
     exact hs1.keep good_S (fun b hb=>hb2.block b (fun e=>hBn (e ▸ hb)))
theorem c_l17Flush (v:Value) (x:TDisk) (w:World) (h:AV shDisk w v x) (hn:shDisk.sz x≤1048576) (hp:∀p∈x.2.2,0≤p.1∧p.1<x.2.1.length):Calls Tryz.prog 86 #[v] w (ToV shDisk (x.1,flushS x.2.1 x.2.2,[]) w):=by
 obtain ⟨cs,rfl,h⟩:=h
 obtain ⟨x0,x1,x2⟩:=x
 have ho:=openDisk h
 dsimp only at ho hp
 obtain ⟨A1,c1,A2,c2,rfl,b0,b1,b2⟩:=ho
 have hs:shDisk.sz (x0,x1,x2)=0+((shL shS).sz x1+((shL shPut).sz x2)):=rfl
 have hl1:x1.length≤1048576:=Nat.le_trans (Nat.le_add_right _ _) (show (shL shS).sz x1≤_ by omega)
 have hl2:=b2.len_le
 clear hs hn
 obtain ⟨i1,hi1,hy0,hy1,hy2⟩:=info_parts cinfo_StringS
 have vv0:Up w ((w.alloc (.cells #[.int .i64 x0,.slice A1 x1.length c1,.slice A2 x2.length c2] 45)).alloc (.cells #[.int .i64 0,.slice none 0 0,.slice none 0 0] 45)):=((Up.refl _).alloc _).alloc _
 have ja0:Bk ((w.alloc (.cells #[.int .i64 x0,.slice A1 x1.length c1,.slice A2 x2.length c2] 45)).alloc (.cells #[.int .i64 0,.slice none 0 0,.slice none 0 0] 45)) w.heap.size 45 #[.int .i64 x0,.slice A1 x1.length c1,.slice A2 x2.length c2]:=(Bk.new _ _ _).alloc _
 have jr0:Bk ((w.alloc (.cells #[.int .i64 x0,.slice A1 x1.length c1,.slice A2 x2.length c2] 45)).alloc (.cells #[.int .i64 0,.slice none 0 0,.slice none 0 0] 45)) (w.heap.size+1) 45 #[.int .i64 0,.slice none 0 0,.slice none 0 0]:=by simpa using (Bk.new (w.alloc (.cells #[.int .i64 x0,.slice A1 x1.length c1,.slice A2 x2.length c2] 45)) 45 #[.int .i64 0,.slice none 0 0,.slice none 0 0])
 have jb2:Bk ((((w.alloc (.cells #[.int .i64 x0,.slice A1 x1.length c1,.slice A2 x2.length c2] 45)).alloc (.cells #[.int .i64 0,.slice none 0 0,.slice none 0 0] 45)).alloc (.cells #[.int .i64 0,.slice none 0 0,.slice none 0 0] 45)).alloc (.cells #[] 9)).drew (w.heap.size+1+1) 45 #[.int .i64 0,.slice none 0 0,.slice none 0 0]:=by simpa using ((Bk.new ((w.alloc (.cells #[.int .i64 x0,.slice A1 x1.length c1,.slice A2 x2.length c2] 45)).alloc (.cells #[.int .i64 0,.slice none 0 0,.slice none 0 0] 45)) 45 #[.int .i64 0,.slice none 0 0,.slice none 0 0]).alloc (.cells #[] 9)).drew
 have jb3:Bk ((((w.alloc (.cells #[.int .i64 x0,.slice A1 x1.length c1,.slice A2 x2.length c2] 45)).alloc (.cells #[.int .i64 0,.slice none 0 0,.slice none 0 0] 45)).alloc (.cells #[] 9)).alloc (.cells #[.int .i64 0,.slice none 0 0,.slice none 0 0] 45)).drew (w.heap.size+1+1+1) 45 #[.int .i64 0,.slice none 0 0,.slice none 0 0]:=by simpa using (Bk.new (((w.alloc (.cells #[.int .i64 x0,.slice A1 x1.length c1,.slice A2 x2.length c2] 45)).alloc (.cells #[.int .i64 0,.slice none 0 0,.slice none 0 0] 45)).alloc (.cells #[] 9)) 45 #[.int .i64 0,.slice none 0 0,.slice none 0 0]).drew
 go_enter Tryz.func86,Tryz.ntmps86
 go_wp2_with fail
 go_region_held3 (fun W=>W.cell? ⟨w.heap.size,0,none⟩=some (.int .i64 x0)∧W.cell? ⟨w.heap.size,1,none⟩=some (.slice A1 x1.length c1)∧W.cell? ⟨w.heap.size,2,none⟩=some (.slice A2 x2.length c2))
   (first | (refine cells3 (t:=45) ?_;repeat (first | with_reducible exact ja0 | with_reducible exact ka1 | with_reducible refine Bk.alloc ?_ _ | with_reducible refine Bk.drew ?_ | (with_reducible refine Bk.far ?_ (by dsimp only;omega) _))))
   (first
     | (refine step_app_new good_S flat_S rfl _ _ _ 9 rfl i1 _ Tryz.underlying25 hi1 hy0 hy1 (by rfl) (by rfl) (by rfl) (b1.up good_S (by repeat (first | with_reducible exact vv0 | with_reducible refine Up.alloc ?_ _ | with_reducible refine Up.drew ?_))) (by rw [hy2];omega) ?_;intro D1 d1 bl1 w1 o1 nd1 u1
        have uu1:Up w w1:=Up.trans (by repeat (first | with_reducible exact vv0 | with_reducible refine Up.alloc ?_ _ | with_reducible refine Up.drew ?_)) u1
        have ka1:Bk w1 w.heap.size 45 #[.int .i64 x0,.slice A1 x1.length c1,.slice A2 x2.length c2]:=Bk.up (by repeat (first | with_reducible exact ja0 | with_reducible refine Bk.alloc ?_ _ | with_reducible refine Bk.drew ?_)) u1
        have kr1:Bk w1 (w.heap.size+1) 45 #[.int .i64 0,.slice none 0 0,.slice none 0 0]:=Bk.up (by repeat (first | with_reducible exact jr0 | with_reducible refine Bk.alloc ?_ _ | with_reducible refine Bk.drew ?_)) u1
        first | ((with_reducible have kb1:=Bk.up jb2 u1);have gb0:w1.cell? ⟨w.heap.size+1+1,0,none⟩=some (.int .i64 0):=kb1.cell 0;have gb1:w1.cell? ⟨w.heap.size+1+1,1,none⟩=some (.slice none 0 0):=kb1.cell 1;have gb2:w1.cell? ⟨w.heap.size+1+1,2,none⟩=some (.slice none 0 0):=kb1.cell 2;have fb0:=kb1.frozen 0;have fb1:=kb1.frozen 1;have fb2:=kb1.frozen 2) | ((with_reducible have kb1:=Bk.up jb3 u1);have gb0:w1.cell? ⟨w.heap.size+1+1+1,0,none⟩=some (.int .i64 0):=kb1.cell 0;have gb1:w1.cell? ⟨w.heap.size+1+1+1,1,none⟩=some (.slice none 0 0):=kb1.cell 1;have gb2:w1.cell? ⟨w.heap.size+1+1+1,2,none⟩=some (.slice none 0 0):=kb1.cell 2;have fb0:=kb1.frozen 0;have fb1:=kb1.frozen 1;have fb2:=kb1.frozen 2) | skip))
 · have kA:=ka1.alloc (.cells #[.int .i64 x0,.slice D1 x1.length d1,.slice none 0 0] 45)
   have kR:=kr1.alloc (.cells #[.int .i64 x0,.slice D1 x1.length d1,.slice none 0 0] 45)
   have kB:=Bk.new w1 45 #[.int .i64 x0,.slice D1 x1.length d1,.slice none 0 0]
   have uW:=uu1.alloc (.cells #[.int .i64 x0,.slice D1 x1.length d1,.slice none 0 0] 45)
   have oS:=(o1.wide good_S (lo':=w.heap.size+1+1) (by simp) (Nat.le_refl _)).up good_S ((Up.refl w1).alloc (.cells #[.int .i64 x0,.slice D1 x1.length d1,.slice none 0 0] 45))
   have hBn:w1.heap.size ∉ bl1:=fun h=>by have:=(o1.in_ good_S _ h).2;omega
   have hBlo:w.heap.size+1<w1.heap.size:=kr1.lt
   go_wp2_with fail
   go_loopw [4] (fun i wr=>∃(k:Nat),k≤x2.length∧i=.int .i64 k∧Bk wr w.heap.size 45 #[.int .i64 x0,.slice A1 x1.length c1,.slice A2 x2.length c2]∧Bk wr (w.heap.size+1) 45 #[.int .i64 0,.slice none 0 0,.slice none 0 0]∧Bk wr (w1.heap.size) 45 #[.int .i64 x0,.slice D1 x1.length d1,.slice none 0 0]∧SO shS wr (w.heap.size+1+1) wr.heap.size D1 d1 (flushS x1 (x2.take k)) bl1∧Up w wr) (fun i _=>x2.length - (intOf i).toNat)
   case atStart=>exact ⟨0,Nat.zero_le _,rfl,kA,kR,kB,oS,uW⟩
   case round =>
     obtain ⟨k,hk,rfl,kAr,kRr,kBr,hs1,hu⟩:=hrel
     have ca2:wr.cell? ⟨w.heap.size,2,none⟩=some (.slice A2 x2.length c2):=kAr.cell 2
     have hin1:=hs1.in_ good_S
     by_cases hlt:k<x2.length
     · obtain ⟨g2,off2,rfl,_,hg2,hc0,hc1,q0,q1,_⟩:=atPut b2 hlt
       replace hc0:=(hu.cell hg2).trans hc0
       replace hc1:=(hu.cell hg2).trans hc1
       obtain ⟨p0,p1⟩:=hp x2[k] (List.getElem_mem hlt)
       obtain ⟨m,hm⟩:∃m:Nat,x2[k].1=(m:Int):=⟨x2[k].1.toNat,by omega⟩
       have hmk:m<(flushS x1 (x2.take k)).length:=by rw [flushS_len];omega
       obtain ⟨g,off,o,rfl,hgb,hg1,_,hg3,hgc,hgf,hset⟩:=hs1.setS nd1 hmk
       rw [hm] at hc0
       have hx:flushS x1 (x2.take (k+1))=(flushS x1 (x2.take k)).set m x2[k].2:=by rw [flushS_take _ _ _ hlt,hm];rfl
       have hBg:w1.heap.size≠g:=fun e=>hBn (e ▸ hgb)
       have hm0:(0:Int)≤(m:Int):=by omega
       have hm1:(m:Int)<(x1.length:Int):=by omega
       have cb1:wr.cell? ⟨w1.heap.size,1,none⟩=some (.slice (some ⟨g,off,none⟩) x1.length d1):=kBr.cell 1
       have e0:wr.drew.cell? ⟨w1.heap.size,1,none⟩=some (.slice (some ⟨g,off,none⟩) x1.length d1):=cb1
       have e1:wr.drew.cell? ⟨w.heap.size,2,none⟩=some (.slice (some ⟨g2,off2,none⟩) x2.length c2):=ca2
       have e2:wr.drew.cell? ⟨g2,off2+k*2,none⟩=some (.int .i64 m):=hc0
       have e3:wr.drew.cell? ⟨g2,off2+k*2+1,none⟩=some (.string x2[k].2):=hc1
       have z0:=(cell_far (w:=wr) (p:=⟨g,off+m,none⟩) (.string x2[k].2) (a:=⟨w1.heap.size,1,none⟩) (by dsimp only;omega)).trans cb1
       have z1:=(cell_far (w:=wr) (p:=⟨g,off+m,none⟩) (.string x2[k].2) (a:=⟨w.heap.size,2,none⟩) (by dsimp only;omega)).trans ca2
       have z2:=(cell_far (w:=wr) (p:=⟨g,off+m,none⟩) (.string x2[k].2) (a:=⟨g2,off2+k*2,none⟩) (by dsimp only;omega)).trans hc0
       have z3:=(cell_far (w:=wr) (p:=⟨g,off+m,none⟩) (.string x2[k].2) (a:=⟨g2,off2+k*2+1,none⟩) (by dsimp only;omega)).trans hc1
       go_wp2_with fail
       go_region_held3 (fun W=>W.cell? ⟨w1.heap.size,1,none⟩=some (.slice (some ⟨g,off,none⟩) x1.length d1)∧W.cell? ⟨w.heap.size,2,none⟩=some (.slice (some ⟨g2,off2,none⟩) x2.length c2)∧W.cell? ⟨g2,off2+k*2,none⟩=some (.int .i64 m)∧W.cell? ⟨g2,off2+k*2+1,none⟩=some (.string x2[k].2))
         (first | with_reducible exact ⟨e0,e1,e2,e3⟩ | exact ⟨z0,z1,z2,z3⟩)
         (first | fail)
       go_wp2_with fail
       go_roundw
       case rel =>
         have hso:=hset x2[k].2 q1
         rw [← hx] at hso
         have hsz:(wr.setCell ⟨g,off+m,none⟩ (.string x2[k].2)).heap.size=wr.heap.size:=by simp [World.setCell]
         have hso':SO shS (wr.setCell ⟨g,off+m,none⟩ (.string x2[k].2)) (w.heap.size+1+1) (wr.setCell ⟨g,off+m,none⟩ (.string x2[k].2)).heap.size (some ⟨g,off,none⟩) d1 (flushS x1 (x2.take (k+1))) bl1:=by rw [hsz];exact hso
         exact ⟨k+1,by omega,by go_num,(kAr.far (p:=⟨g,off+m,none⟩) (by dsimp only;omega) _).drew,(kRr.far (p:=⟨g,off+m,none⟩) (by dsimp only;omega) _).drew,(kBr.far (p:=⟨g,off+m,none⟩) (by dsimp only;omega) _).drew,hso'.up good_S (Up.refl _).drew,(hu.setCell (p:=⟨g,off+m,none⟩) (by dsimp only;omega) _).drew⟩
       case measure=>simp [intOf];omega
     · obtain rfl:k=x2.length:=by omega
       rw [List.take_length] at hs1
       have cb0:wr.cell? ⟨w1.heap.size,0,none⟩=some (.int .i64 x0):=kBr.cell 0
       have cb1:wr.cell? ⟨w1.heap.size,1,none⟩=some (.slice D1 x1.length d1):=kBr.cell 1
       have cb2:wr.cell? ⟨w1.heap.size,2,none⟩=some (.slice none 0 0):=kBr.cell 2
       have cr0:wr.cell? ⟨w.heap.size+1,0,none⟩=some (.int .i64 0):=kRr.cell 0
       have cr1:wr.cell? ⟨w.heap.size+1,1,none⟩=some (.slice none 0 0):=kRr.cell 1
       have cr2:wr.cell? ⟨w.heap.size+1,2,none⟩=some (.slice none 0 0):=kRr.cell 2
       have fr0:=kRr.frozen 0
       have fr1:=kRr.frozen 1
       have fr2:=kRr.frozen 2
       go_wp2_with fail
       refine bodyPost_ret (v:=.agg #[.int .i64 x0,.slice D1 x1.length d1,.slice none 0 0]) (by simp [results,Tryz.results86,go_sem,cr0,cr1,cr2]) rfl ?_
       have hlen:(flushS x1 x2).length=x1.length:=flushS_len _ _
       have zz:=(hs1.set good_S (w.heap.size+1) 0 [.int .i64 x0,.slice D1 x1.length d1,.slice none 0 0] (by omega)).wide good_S (lo':=w.heap.size) (by omega) (Nat.le_refl _)
       have asm:=asmDisk (x0:=x0) (x2:=[]) b0 zz (SO.nil _ _ _)
       rw [hlen] at asm
       exact ⟨[.int .i64 x0,.slice D1 x1.length d1,.slice none 0 0],_,rfl,asm,by simpa using nd1,hu.sets (g:=w.heap.size+1) (by omega) 0 [.int .i64 x0,.slice D1 x1.length d1,.slice none 0 0]⟩
 · have kA:=ka1.but (But.sets (g:=w.heap.size+1+1+1) [.int .i64 x0,.slice D1 x1.length d1,.slice none 0 0] w1 0) (by omega)
   have kR:=kr1.but (But.sets (g:=w.heap.size+1+1+1) [.int .i64 x0,.slice D1 x1.length d1,.slice none 0 0] w1 0) (by omega)
   have kB:Bk (setCells w1 (w.heap.size+1+1+1) 0 [.int .i64 x0,.slice D1 x1.length d1,.slice none 0 0]) (w.heap.size+1+1+1) 45 #[.int .i64 x0,.slice D1 x1.length d1,.slice none 0 0]:=Bk.sets [.int .i64 x0,.slice D1 x1.length d1,.slice none 0 0] kb1 0
   have uW:=uu1.sets (g:=w.heap.size+1+1+1) (by omega) 0 [.int .i64 x0,.slice D1 x1.length d1,.slice none 0 0]
   have oS:=(o1.set good_S (w.heap.size+1+1+1) 0 [.int .i64 x0,.slice D1 x1.length d1,.slice none 0 0] (by simp)).wide good_S (lo':=w.heap.size+1+1) (by simp) (Nat.le_refl _)
   have hBn:w.heap.size+1+1+1 ∉ bl1:=fun h=>by have:=(o1.in_ good_S _ h).1;simp at this <;> omega
   have hBlo:w.heap.size+1<w.heap.size+1+1+1:=by omega
   clear gb0 gb1 gb2 fb0 fb1 fb2
   go_wp2_with fail
   go_loopw [4] (fun i wr=>∃(k:Nat),k≤x2.length∧i=.int .i64 k∧Bk wr w.heap.size 45 #[.int .i64 x0,.slice A1 x1.length c1,.slice A2 x2.length c2]∧Bk wr (w.heap.size+1) 45 #[.int .i64 0,.slice none 0 0,.slice none 0 0]∧Bk wr (w.heap.size+1+1+1) 45 #[.int .i64 x0,.slice D1 x1.length d1,.slice none 0 0]∧SO shS wr (w.heap.size+1+1) wr.heap.size D1 d1 (flushS x1 (x2.take k)) bl1∧Up w wr) (fun i _=>x2.length - (intOf i).toNat)
   case atStart=>exact ⟨0,Nat.zero_le _,rfl,kA,kR,kB,oS,uW⟩
   case round =>
     obtain ⟨k,hk,rfl,kAr,kRr,kBr,hs1,hu⟩:=hrel
     have ca2:wr.cell? ⟨w.heap.size,2,none⟩=some (.slice A2 x2.length c2):=kAr.cell 2
     have hin1:=hs1.in_ good_S
     by_cases hlt:k<x2.length
     · obtain ⟨g2,off2,rfl,_,hg2,hc0,hc1,q0,q1,_⟩:=atPut b2 hlt
       replace hc0:=(hu.cell hg2).trans hc0
       replace hc1:=(hu.cell hg2).trans hc1
       obtain ⟨p0,p1⟩:=hp x2[k] (List.getElem_mem hlt)
       obtain ⟨m,hm⟩:∃m:Nat,x2[k].1=(m:Int):=⟨x2[k].1.toNat,by omega⟩
       have hmk:m<(flushS x1 (x2.take k)).length:=by rw [flushS_len];omega
       obtain ⟨g,off,o,rfl,hgb,hg1,_,hg3,hgc,hgf,hset⟩:=hs1.setS nd1 hmk
       rw [hm] at hc0
       have hx:flushS x1 (x2.take (k+1))=(flushS x1 (x2.take k)).set m x2[k].2:=by rw [flushS_take _ _ _ hlt,hm];rfl
       have hBg:w.heap.size+1+1+1≠g:=fun e=>hBn (e ▸ hgb)
       have hm0:(0:Int)≤(m:Int):=by omega
       have hm1:(m:Int)<(x1.length:Int):=by omega
       have cb1:wr.cell? ⟨w.heap.size+1+1+1,1,none⟩=some (.slice (some ⟨g,off,none⟩) x1.length d1):=kBr.cell 1
       have e0:wr.drew.cell? ⟨w.heap.size+1+1+1,1,none⟩=some (.slice (some ⟨g,off,none⟩) x1.length d1):=cb1
       have e1:wr.drew.cell? ⟨w.heap.size,2,none⟩=some (.slice (some ⟨g2,off2,none⟩) x2.length c2):=ca2
       have e2:wr.drew.cell? ⟨g2,off2+k*2,none⟩=some (.int .i64 m):=hc0
       have e3:wr.drew.cell? ⟨g2,off2+k*2+1,none⟩=some (.string x2[k].2):=hc1
       have z0:=(cell_far (w:=wr) (p:=⟨g,off+m,none⟩) (.string x2[k].2) (a:=⟨w.heap.size+1+1+1,1,none⟩) (by dsimp only;omega)).trans cb1
       have z1:=(cell_far (w:=wr) (p:=⟨g,off+m,none⟩) (.string x2[k].2) (a:=⟨w.heap.size,2,none⟩) (by dsimp only;omega)).trans ca2
       have z2:=(cell_far (w:=wr) (p:=⟨g,off+m,none⟩) (.string x2[k].2) (a:=⟨g2,off2+k*2,none⟩) (by dsimp only;omega)).trans hc0
       have z3:=(cell_far (w:=wr) (p:=⟨g,off+m,none⟩) (.string x2[k].2) (a:=⟨g2,off2+k*2+1,none⟩) (by dsimp only;omega)).trans hc1
       go_wp2_with fail
       go_region_held3 (fun W=>W.cell? ⟨w.heap.size+1+1+1,1,none⟩=some (.slice (some ⟨g,off,none⟩) x1.length d1)∧W.cell? ⟨w.heap.size,2,none⟩=some (.slice (some ⟨g2,off2,none⟩) x2.length c2)∧W.cell? ⟨g2,off2+k*2,none⟩=some (.int .i64 m)∧W.cell? ⟨g2,off2+k*2+1,none⟩=some (.string x2[k].2))
         (first | with_reducible exact ⟨e0,e1,e2,e3⟩ | exact ⟨z0,z1,z2,z3⟩)
         (first | fail)
       go_wp2_with fail
       go_roundw
       case rel =>
         have hso:=hset x2[k].2 q1
         rw [← hx] at hso
         have hsz:(wr.setCell ⟨g,off+m,none⟩ (.string x2[k].2)).heap.size=wr.heap.size:=by simp [World.setCell]
         have hso':SO shS (wr.setCell ⟨g,off+m,none⟩ (.string x2[k].2)) (w.heap.size+1+1) (wr.setCell ⟨g,off+m,none⟩ (.string x2[k].2)).heap.size (some ⟨g,off,none⟩) d1 (flushS x1 (x2.take (k+1))) bl1:=by rw [hsz];exact hso
         exact ⟨k+1,by omega,by go_num,(kAr.far (p:=⟨g,off+m,none⟩) (by dsimp only;omega) _).drew,(kRr.far (p:=⟨g,off+m,none⟩) (by dsimp only;omega) _).drew,(kBr.far (p:=⟨g,off+m,none⟩) (by dsimp only;omega) _).drew,hso'.up good_S (Up.refl _).drew,(hu.setCell (p:=⟨g,off+m,none⟩) (by dsimp only;omega) _).drew⟩
       case measure=>simp [intOf];omega
     · obtain rfl:k=x2.length:=by omega
       rw [List.take_length] at hs1
       have cb0:wr.cell? ⟨w.heap.size+1+1+1,0,none⟩=some (.int .i64 x0):=kBr.cell 0
       have cb1:wr.cell? ⟨w.heap.size+1+1+1,1,none⟩=some (.slice D1 x1.length d1):=kBr.cell 1
       have cb2:wr.cell? ⟨w.heap.size+1+1+1,2,none⟩=some (.slice none 0 0):=kBr.cell 2
       have cr0:wr.cell? ⟨w.heap.size+1,0,none⟩=some (.int .i64 0):=kRr.cell 0
       have cr1:wr.cell? ⟨w.heap.size+1,1,none⟩=some (.slice none 0 0):=kRr.cell 1
       have cr2:wr.cell? ⟨w.heap.size+1,2,none⟩=some (.slice none 0 0):=kRr.cell 2
       have fr0:=kRr.frozen 0
       have fr1:=kRr.frozen 1
       have fr2:=kRr.frozen 2
       go_wp2_with fail
       refine bodyPost_ret (v:=.agg #[.int .i64 x0,.slice D1 x1.length d1,.slice none 0 0]) (by simp [results,Tryz.results86,go_sem,cr0,cr1,cr2]) rfl ?_
       have hlen:(flushS x1 x2).length=x1.length:=flushS_len _ _
       have zz:=(hs1.set good_S (w.heap.size+1) 0 [.int .i64 x0,.slice D1 x1.length d1,.slice none 0 0] (by omega)).wide good_S (lo':=w.heap.size) (by omega) (Nat.le_refl _)
       have asm:=asmDisk (x0:=x0) (x2:=[]) b0 zz (SO.nil _ _ _)
       rw [hlen] at asm
       exact ⟨[.int .i64 x0,.slice D1 x1.length d1,.slice none 0 0],_,rfl,asm,by simpa using nd1,hu.sets (g:=w.heap.size+1) (by omega) 0 [.int .i64 x0,.slice D1 x1.length d1,.slice none 0 0]⟩
 · have kA:=ka1.but (But.sets (g:=w.heap.size+1+1) [.int .i64 x0,.slice D1 x1.length d1,.slice none 0 0] w1 0) (by omega)
   have kR:=kr1.but (But.sets (g:=w.heap.size+1+1) [.int .i64 x0,.slice D1 x1.length d1,.slice none 0 0] w1 0) (by omega)
   have kB:Bk (setCells w1 (w.heap.size+1+1) 0 [.int .i64 x0,.slice D1 x1.length d1,.slice none 0 0]) (w.heap.size+1+1) 45 #[.int .i64 x0,.slice D1 x1.length d1,.slice none 0 0]:=Bk.sets [.int .i64 x0,.slice D1 x1.length d1,.slice none 0 0] kb1 0
   have uW:=uu1.sets (g:=w.heap.size+1+1) (by omega) 0 [.int .i64 x0,.slice D1 x1.length d1,.slice none 0 0]
   have oS:=(o1.set good_S (w.heap.size+1+1) 0 [.int .i64 x0,.slice D1 x1.length d1,.slice none 0 0] (by simp)).wide good_S (lo':=w.heap.size+1+1) (by simp) (Nat.le_refl _)
   have hBn:w.heap.size+1+1 ∉ bl1:=fun h=>by have:=(o1.in_ good_S _ h).1;simp at this <;> omega
   have hBlo:w.heap.size+1<w.heap.size+1+1:=by omega
   clear gb0 gb1 gb2 fb0 fb1 fb2
   go_wp2_with fail
   go_loopw [4] (fun i wr=>∃(k:Nat),k≤x2.length∧i=.int .i64 k∧Bk wr w.heap.size 45 #[.int .i64 x0,.slice A1 x1.length c1,.slice A2 x2.length c2]∧Bk wr (w.heap.size+1) 45 #[.int .i64 0,.slice none 0 0,.slice none 0 0]∧Bk wr (w.heap.size+1+1) 45 #[.int .i64 x0,.slice D1 x1.length d1,.slice none 0 0]∧SO shS wr (w.heap.size+1+1) wr.heap.size D1 d1 (flushS x1 (x2.take k)) bl1∧Up w wr) (fun i _=>x2.length - (intOf i).toNat)
   case atStart=>exact ⟨0,Nat.zero_le _,rfl,kA,kR,kB,oS,uW⟩
   case round =>
     obtain ⟨k,hk,rfl,kAr,kRr,kBr,hs1,hu⟩:=hrel
     have ca2:wr.cell? ⟨w.heap.size,2,none⟩=some (.slice A2 x2.length c2):=kAr.cell 2
     have hin1:=hs1.in_ good_S
     by_cases hlt:k<x2.length
     · obtain ⟨g2,off2,rfl,_,hg2,hc0,hc1,q0,q1,_⟩:=atPut b2 hlt
       replace hc0:=(hu.cell hg2).trans hc0
       replace hc1:=(hu.cell hg2).trans hc1
       obtain ⟨p0,p1⟩:=hp x2[k] (List.getElem_mem hlt)
       obtain ⟨m,hm⟩:∃m:Nat,x2[k].1=(m:Int):=⟨x2[k].1.toNat,by omega⟩
       have hmk:m<(flushS x1 (x2.take k)).length:=by rw [flushS_len];omega
       obtain ⟨g,off,o,rfl,hgb,hg1,_,hg3,hgc,hgf,hset⟩:=hs1.setS nd1 hmk
       rw [hm] at hc0
       have hx:flushS x1 (x2.take (k+1))=(flushS x1 (x2.take k)).set m x2[k].2:=by rw [flushS_take _ _ _ hlt,hm];rfl
       have hBg:w.heap.size+1+1≠g:=fun e=>hBn (e ▸ hgb)
       have hm0:(0:Int)≤(m:Int):=by omega
       have hm1:(m:Int)<(x1.length:Int):=by omega
       have cb1:wr.cell? ⟨w.heap.size+1+1,1,none⟩=some (.slice (some ⟨g,off,none⟩) x1.length d1):=kBr.cell 1
       have e0:wr.drew.cell? ⟨w.heap.size+1+1,1,none⟩=some (.slice (some ⟨g,off,none⟩) x1.length d1):=cb1
       have e1:wr.drew.cell? ⟨w.heap.size,2,none⟩=some (.slice (some ⟨g2,off2,none⟩) x2.length c2):=ca2
       have e2:wr.drew.cell? ⟨g2,off2+k*2,none⟩=some (.int .i64 m):=hc0
       have e3:wr.drew.cell? ⟨g2,off2+k*2+1,none⟩=some (.string x2[k].2):=hc1
       have z0:=(cell_far (w:=wr) (p:=⟨g,off+m,none⟩) (.string x2[k].2) (a:=⟨w.heap.size+1+1,1,none⟩) (by dsimp only;omega)).trans cb1
       have z1:=(cell_far (w:=wr) (p:=⟨g,off+m,none⟩) (.string x2[k].2) (a:=⟨w.heap.size,2,none⟩) (by dsimp only;omega)).trans ca2
       have z2:=(cell_far (w:=wr) (p:=⟨g,off+m,none⟩) (.string x2[k].2) (a:=⟨g2,off2+k*2,none⟩) (by dsimp only;omega)).trans hc0
       have z3:=(cell_far (w:=wr) (p:=⟨g,off+m,none⟩) (.string x2[k].2) (a:=⟨g2,off2+k*2+1,none⟩) (by dsimp only;omega)).trans hc1
       go_wp2_with fail
       go_region_held3 (fun W=>W.cell? ⟨w.heap.size+1+1,1,none⟩=some (.slice (some ⟨g,off,none⟩) x1.length d1)∧W.cell? ⟨w.heap.size,2,none⟩=some (.slice (some ⟨g2,off2,none⟩) x2.length c2)∧W.cell? ⟨g2,off2+k*2,none⟩=some (.int .i64 m)∧W.cell? ⟨g2,off2+k*2+1,none⟩=some (.string x2[k].2))
         (first | with_reducible exact ⟨e0,e1,e2,e3⟩ | exact ⟨z0,z1,z2,z3⟩)
         (first | fail)
       go_wp2_with fail
       go_roundw
       case rel =>
         have hso:=hset x2[k].2 q1
         rw [← hx] at hso
         have hsz:(wr.setCell ⟨g,off+m,none⟩ (.string x2[k].2)).heap.size=wr.heap.size:=by simp [World.setCell]
         have hso':SO shS (wr.setCell ⟨g,off+m,none⟩ (.string x2[k].2)) (w.heap.size+1+1) (wr.setCell ⟨g,off+m,none⟩ (.string x2[k].2)).heap.size (some ⟨g,off,none⟩) d1 (flushS x1 (x2.take (k+1))) bl1:=by rw [hsz];exact hso
         exact ⟨k+1,by omega,by go_num,(kAr.far (p:=⟨g,off+m,none⟩) (by dsimp only;omega) _).drew,(kRr.far (p:=⟨g,off+m,none⟩) (by dsimp only;omega) _).drew,(kBr.far (p:=⟨g,off+m,none⟩) (by dsimp only;omega) _).drew,hso'.up good_S (Up.refl _).drew,(hu.setCell (p:=⟨g,off+m,none⟩) (by dsimp only;omega) _).drew⟩
       case measure=>simp [intOf];omega
     · obtain rfl:k=x2.length:=by omega
       rw [List.take_length] at hs1
       have cb0:wr.cell? ⟨w.heap.size+1+1,0,none⟩=some (.int .i64 x0):=kBr.cell 0
       have cb1:wr.cell? ⟨w.heap.size+1+1,1,none⟩=some (.slice D1 x1.length d1):=kBr.cell 1
       have cb2:wr.cell? ⟨w.heap.size+1+1,2,none⟩=some (.slice none 0 0):=kBr.cell 2
       have cr0:wr.cell? ⟨w.heap.size+1,0,none⟩=some (.int .i64 0):=kRr.cell 0
       have cr1:wr.cell? ⟨w.heap.size+1,1,none⟩=some (.slice none 0 0):=kRr.cell 1
       have cr2:wr.cell? ⟨w.heap.size+1,2,none⟩=some (.slice none 0 0):=kRr.cell 2
       have fr0:=kRr.frozen 0
       have fr1:=kRr.frozen 1
       have fr2:=kRr.frozen 2
       go_wp2_with fail
       refine bodyPost_ret (v:=.agg #[.int .i64 x0,.slice D1 x1.length d1,.slice none 0 0]) (by simp [results,Tryz.results86,go_sem,cr0,cr1,cr2]) rfl ?_
       have hlen:(flushS x1 x2).length=x1.length:=flushS_len _ _
       have zz:=(hs1.set good_S (w.heap.size+1) 0 [.int .i64 x0,.slice D1 x1.length d1,.slice none 0 0] (by omega)).wide good_S (lo':=w.heap.size) (by omega) (Nat.le_refl _)
       have asm:=asmDisk (x0:=x0) (x2:=[]) b0 zz (SO.nil _ _ _)
       rw [hlen] at asm
       exact ⟨[.int .i64 x0,.slice D1 x1.length d1,.slice none 0 0],_,rfl,asm,by simpa using nd1,hu.sets (g:=w.heap.size+1) (by omega) 0 [.int .i64 x0,.slice D1 x1.length d1,.slice none 0 0]⟩
theorem puts_in {d:TDisk} (h:diskOk d=true):∀p∈d.2.2,0≤p.1∧p.1<d.2.1.length:=by
 intro p hp
 simp only [diskOk,Bool.and_eq_true,Bool.not_eq_true',List.any_eq_false] at h
 have:=h.2 p hp
 simp [badPut,inB] at this
 omega
theorem sum_const {α:Type} (c:Nat):∀xs:List α,(xs.map (fun _=>c)).sum=xs.length*c
 | []=>by simp
 | _::xs=>by simp [sum_const c xs,Nat.succ_mul];omega
theorem cntDisk_eq (x:TDisk):mmTDisk.cnt x=x.2.1.length+x.2.2.length*2:=by
 obtain ⟨x0,x1,x2⟩:=x
 show 0+((x1.map (fun _=>1)).sum+(x2.map (fun _=>2)).sum)=_
 rw [sum_const,sum_const]
 dsimp only
 omega
end Go.Proofs.YthdnicfbnihoaaaGreatDoor
namespace Go.Proofs.YthdnicfbnihoaaaGreatDoor
open Go.RowKit
set_option linter.unusedVariables false
end Go.Proofs.YthdnicfbnihoaaaGreatDoor
namespace Go.Proofs.YthdnicfbnihoaaaGreatDoor
open Go.RowKit Go.Maps
set_option linter.unusedVariables false
def ISet (P:Program) (k e:TypeId) (w:World) (b n:Nat) (f:Int→Bool):Prop :=
 ∃D:DataW Unit,w.ownsMap P k (plainElem P e) b n D∧∀i:Int,I64 i→D.atKey (.int .i64 i) (.lit (.bool false))=.lit (.bool (f i))
section
variable {P:Program} {k e:TypeId} {w w':World} {b n:Nat} {f:Int→Bool}
theorem i64_wf {i:Int} (h:I64 i):(Lit.int .i64 i).wf=true:=by
 obtain ⟨h1,h2⟩:=h
 simp [Lit.wf,IntKind.min,IntKind.max,IntKind.signed,IntKind.bits]
 omega
theorem ISet.made (w:World):ISet P k e (w.alloc (.map #[] 0)) w.heap.size 0 (fun _=>false) :=
 ⟨.map [],World.ownsMap_made w P k _,fun i _=>by simp [DataW.atKey]⟩
theorem ISet.lt (h:ISet P k e w b n f):b<w.heap.size:=by obtain ⟨D,h,_⟩:=h;exact h.lt
theorem ISet.same (h:ISet P k e w b n f) (hk:w'.heap[b]?=w.heap[b]?):ISet P k e w' b n f:=by
 obtain ⟨D,⟨es,clock,hb,F,hs,hD⟩,h2⟩:=h
 exact ⟨D,⟨es,clock,hk.trans hb,F,hs,hD⟩,h2⟩
theorem ISet.up (h:ISet P k e w b n f) (u:Up w w'):ISet P k e w' b n f:=h.same (u.block b h.lt)
theorem ISet.drew (h:ISet P k e w b n f):ISet P k e w.drew b n f:=h
theorem ISet.drewN (h:ISet P k e w b n f) (m:Nat):ISet P k e (w.drewN m) b n f:=h
theorem plainElem_bool_inv {H:Type} (he:P.underlying e=some .bool) {v:Value} {z:DataW H × List MemPlace} (h:plainElem P e v=some z):∃x,v=.bool x∧z=(.lit (.bool x),[]):=by
 unfold plainElem at h
 rw [he] at h
 cases v <;> simp at h
 exact ⟨_,rfl,h.symm⟩
theorem ISet.look {t:TypeId} (h:ISet P k e w b n f) (hk:P.underlying k=some (.int .i64)) (ht:P.underlying t=some (.map k e)) (he:P.underlying e=some .bool) (hz:(zeroValue e).run P w=.ok (.bool false) w) {i:Int} (hi:I64 i) :
   (Instr.lookup t (.map (some b)) (.int .i64 i) false).run P w=.ok (.bool (f i)) w:=by
 obtain ⟨D,ho,hf⟩:=h
 obtain ⟨v,ps,hrun,hv⟩:=ho.lookup (int_keyed hk) ht hz (plainElem_bool he false) (keyOf_int_mk hk (i64_wf hi))
 obtain ⟨x,rfl,hx⟩:=plainElem_bool_inv he hv
 rw [hf i hi] at hx
 simp at hx
 rw [hrun,hx.1]
theorem ISet.add {t:TypeId} (h:ISet P k e w b n f) (hk:P.underlying k=some (.int .i64)) (ht:P.underlying t=some (.map k e)) (he:P.underlying e=some .bool) (hn:n<maxLen) {i:Int} (hi:I64 i) (v:Bool) :
   ∃w',(Instr.mapUpdate t (.map (some b)) (.int .i64 i) (.bool v)).run P w=.ok () w'∧ISet P k e w' b (n+1) (fun j=>if j=i then v else f j)∧w.grownBy w' (some b):=by
 obtain ⟨D,ho,hf⟩:=h
 have hm:=ho.isMap
 obtain ⟨w',hrun,ho',hg⟩:=ho.update (int_keyed hk) ht hn (keyOf_int_mk hk (i64_wf hi)) (plainElem_bool he v)
 refine ⟨w',hrun,⟨_,ho',fun j hj=>?_⟩,hg⟩
 by_cases e:j=i
 · subst e
   rw [atKey_put_same hm (by simp [WideAt.IsKeyLit])]
   simp
 · rw [atKey_put_other (by simpa using e),hf j hj]
   simp [e]
theorem Only.of_grown {w w':World} {b:Nat} (h:w.grownBy w' (some b)):Only [b] w w' :=
 ⟨h.os,h.tape,h.output,h.size,fun k hk hn=>h.block k hk (fun e=>hn (by injection e with e;simp [e]))⟩
end
end Go.Proofs.YthdnicfbnihoaaaGreatDoor
namespace Go.Proofs.YthdnicfbnihoaaaGreatDoor
open Go.RowKit
set_option linter.unusedVariables false
set_option linter.unusedSimpArgs false
theorem Bk.range {w:World} {g:Nat} {t:TypeId} {C:Array Value} (k:Bk w g t C) (o:Nat) (cs:List Value) (h:(C.toList.drop o).take cs.length=cs):w.rangeAt g o cs:=fun j v hv=>by
 rw [k.cell,← hv,← h]
 have hj:j<cs.length:=(List.getElem?_eq_some_iff.1 hv).1
 rw [List.getElem?_take,if_pos hj,List.getElem?_drop,Array.getElem?_toList]
theorem Bk.there {w:World} {g:Nat} {t:TypeId} {C:Array Value} (k:Bk w g t C) (o n:Nat) (h:o+n≤C.size):w.there g o n:=fun j hj=>by
 refine ⟨?_,k.frozen _⟩
 rw [k.cell,Array.getElem?_eq_getElem (by omega)]
 rfl
theorem setCells_wld (g:Nat):∀(cs:List Value) (w:World) (p:Nat),w.setCells g p cs=setCells w g p cs
 | [],_,_=>rfl
 | c::cs,w,p=>setCells_wld g cs _ _
def putL:List Value→Nat→List Value→List Value
 | [],_,_=>[]
 | x::l,0,c::cs=>c::putL l 0 cs
 | x::l,0,[]=>x::l
 | x::l,p+1,cs=>x::putL l p cs
theorem putL_nil:∀(l:List Value) (p:Nat),putL l p []=l
 | [],_=>rfl
 | _::_,0=>rfl
 | x::l,p+1=>by rw [putL,putL_nil l p]
theorem putL_set (c:Value) (cs:List Value):∀(l:List Value) (p:Nat),putL (l.set p c) (p+1) cs=putL l p (c::cs)
 | [],_=>rfl
 | x::l,0=>by rw [List.set_cons_zero,putL,putL]
 | x::l,p+1=>by rw [List.set_cons_succ,putL,putL,putL_set c cs l p]
theorem putCells_eq:∀(cs:List Value) (C:Array Value) (p:Nat),putCells C p cs=(putL C.toList p cs).toArray
 | [],C,p=>by rw [putL_nil];rfl
 | c::cs,C,p=>by
   show putCells (C.setIfInBounds p c) (p+1) cs=_
   rw [putCells_eq cs,Array.toList_setIfInBounds,putL_set]
theorem Bk.setsL {w:World} {g:Nat} {t:TypeId} {C:Array Value} (k:Bk w g t C) (cs:List Value) (p:Nat):Bk (setCells w g p cs) g t (putL C.toList p cs).toArray:=putCells_eq cs C p ▸ k.sets cs p
section
variable {P:Program} {ops:Array Oper} {rest:List Oper} {dst:Option Tmp} {ty ty':TypeId} {x y:Operand} {pos:String} {after:Array Edge} {a:Act} {w:World} {Q:Exit→Act→World→Prop} {g o:Nat} {t:TypeId} {C:Array Value}
theorem wpList_load_bk (cs:List Value) (k:Bk w g t C) {d:TypeDesc} (hx:a.eval x=.pointer (some ⟨g,o,none⟩)) (hu:P.underlying ty=some d) (hd:d.isRow=true)
   (hi:(P.info? ty).map (·.size)=some cs.length) (hcs:(C.toList.drop o).take cs.length=cs) (h:wpList P ops Q rest (a.put dst (.agg cs.toArray)) w) :
   wpList P ops Q ((⟨dst,.load ty x,ty',pos,after,none⟩:Oper)::rest) a w :=
 wpList_load_mid rfl ty x rfl g o hx cs d (k.range o cs hcs) hu hd hi h
theorem wpList_store_bk (cs:List Value) (k:Bk w g t C) (hx:a.eval x=.pointer (some ⟨g,o,none⟩)) (hy:a.eval y=.agg cs.toArray)
   (hi:(P.info? ty).map (·.size)=some cs.length) (h1:cs.all (·.oneCell')=true) (hn:o+cs.length≤C.size)
   (h:∀W,But g w W→Bk W g t (putL C.toList o cs).toArray→wpList P ops Q rest (a.put dst undef) W) :
   wpList P ops Q ((⟨dst,.store ty x y,ty',pos,after,none⟩:Oper)::rest) a w:=by
 refine wpList_store_mid rfl ty x y rfl g o cs.toArray hx hy (k.there o _ (by simpa using hn)) (by simpa using hi) (by simpa using h1) ?_
 rw [List.toList_toArray,setCells_wld]
 exact h _ (But.sets cs w o) (putCells_eq cs C o ▸ k.sets cs o)
theorem run_storeVar_one (w:World) (b o:Nat) (ty:TypeId) (v:Value) (ht:w.there b o 1) (hi:(P.info? ty).map (·.size)=some 1) (hv:v.cells=#[v]) (h1:v.oneCell'=true) :
   (storeVar ty ⟨b,o,none⟩ v).run P w=.ok () (w.setCell ⟨b,o,none⟩ v):=by
 have:=run_storeCells_cells (P:=P) b o [v] 0 w (fun j hj=>by simpa using (ht j (by simpa using hj)).1) (fun j hj=>by simpa using (ht j (by simpa using hj)).2) (fun u hu=>by simp at hu;subst hu;exact h1)
 cases hq:P.info? ty with
 | none=>simp [hq] at hi
 | some i =>
   have hs:i.size=1:=by simpa [hq] using hi
   simp only [Nat.add_zero] at this
   simp [storeVar,sizeOf,typeInfo,hq,hv,hs,this,World.setCells]
theorem wpList_store1_bk (v:Value) (k:Bk w g t C) (hx:a.eval x=.pointer (some ⟨g,o,none⟩)) (hy:a.eval y=v)
   (hi:(P.info? ty).map (·.size)=some 1) (hv:v.cells=#[v]) (h1:v.oneCell'=true) (hn:o+1≤C.size)
   (h:∀W,But g w W→Bk W g t (putL C.toList o [v]).toArray→wpList P ops Q rest (a.put dst undef) W) :
   wpList P ops Q ((⟨dst,.store ty x y,ty',pos,after,none⟩:Oper)::rest) a w:=by
 refine wpList_plain rfl fun K hK=>?_
 unfold Oper.wp execOp
 simp only [hx,hy,Instr.storeAt,Instr.sureAddr,Sem.run_bind,Sem.run_pure,Result.andThen_ok,run_storeVar_one w g o ty v (k.there o 1 hn) hi hv h1]
 exact hK _ _ (h _ (But.set w g o v) (putCells_eq [v] C o ▸ k.set o v))
end
theorem Bk.butM {w w':World} {g g':Nat} {t:TypeId} {C:Array Value} (h:Bk w g t C) (k:But g' w w') (hg:g≠g'):Bk w' g t C:=(k.block g hg).trans h
theorem run_loadVar_bk {P:Program} {w:World} {g:Nat} {t:TypeId} {C:Array Value} (k:Bk w g t C) (ty:TypeId) {d:TypeDesc} (hu:P.underlying ty=some d) (hd:d.isRow=true) (hi:(P.info? ty).map (·.size)=some C.size) :
   (loadVar ty ⟨g,0,none⟩).run P w=.ok (.agg C) w:=by
 have h:=run_loadVar_mid (P:=P) w g 0 ty C.toList d (k.range 0 C.toList (by rw [List.drop_zero,List.take_length])) hu hd (by simpa using hi)
 simpa using h
theorem results_bk {P:Program} {fn:Func} {tmps:Array Value} {w:World} {g:Nat} {t:TypeId} {C:Array Value} (k:Bk w g t C) (n:Nat) (ty:TypeId) {d:TypeDesc} (hr:fn.results=#[.cell n ty]) (ht:tmps.getD n undef=.pointer (some ⟨g,0,none⟩))
   (hu:P.underlying ty=some d) (hd:d.isRow=true) (hi:(P.info? ty).map (·.size)=some C.size):(results fn tmps).run P w=.ok (.agg C) w:=by
 have h:=run_loadVar_bk (P:=P) k ty hu hd hi
 unfold results
 rw [hr]
 simp only [List.mapM_toArray,List.mapM_cons,List.mapM_nil,ht,asAddr,Sem.run_bind,Sem.run_pure,Result.andThen_ok,h,pure_bind,map_pure,Sem.run_map]
 simp [h]
theorem SO.but {α:Type} {s:Sh α} (hg:Good s) {w w':World} {lo g:Nat} {A:Option Addr} {c:Nat} {xs:List α} {bl:List Nat} (h:SO s w lo w.heap.size A c xs bl) (b:But g w w') (hlt:g<lo):SO s w' lo w'.heap.size A c xs bl:=by
 rw [b.size]
 exact h.keep hg (fun x hx=>b.block x (by have:=(h.in_ hg x hx).1;omega))
theorem own_but {α:Type} {s:Sh α} (hg:Good s) {w w':World} {lo g:Nat} {cs:List Value} {x:α} {bl:List Nat} (h:s.own w lo w.heap.size cs x bl) (b:But g w w') (hlt:g<lo):s.own w' lo w'.heap.size cs x bl:=by
 rw [b.size]
 exact hg.own_keep h (fun x hx=>b.block x (by have:=(hg.own_in h x hx).1;omega))
end Go.Proofs.YthdnicfbnihoaaaGreatDoor
