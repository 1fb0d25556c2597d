/-
 FlushJournal and ResetJournal: the program's and the reference's give one journal in new memory.
-/
import Derived.Test.YthdnicfbnihoaaaGreatDoorM4K
import Derived.Test.YthdnicfbnihoaaaGreatDoorM4Jo
set_option maxHeartbeats 4000000
set_option maxRecDepth 100000
namespace Go.Proofs.YthdnicfbnihoaaaGreatDoor
open Go.RowKit
set_option linter.unusedVariables false
set_option linter.unusedSimpArgs false
theorem journal_disk {j:TJournal} (h:journalOk j=true):diskOk j.1=true:=by
 simp only [journalOk,Bool.and_eq_true] at h
 exact h.1.1.1.1.1
theorem journal_sz {j:TJournal} (h:shJournal.sz j≤1048576):shDisk.sz j.1≤1048576:=by
 have:shJournal.sz j=shDisk.sz j.1+(0+(0+(0+0))):=rfl
 omega
theorem ownJ {w:World} {lo hi:Nat} {cs:List Value} {d:TDisk} {bl:List Nat} (h:shDisk.own w lo hi cs d bl) {a b c e:Int} (ha:I64 a) (hb:I64 b) (hc:I64 c) (he:I64 e) :
   shJournal.own w lo hi (cs++[.int .i64 a,.int .i64 b,.int .i64 c,.int .i64 e]) (d,a,b,c,e) bl:=by
 have h2:shJournal.own w lo hi _ (d,a,b,c,e) _:=mkO_P (a:=shDisk) (x:=(d,a,b,c,e)) good_Disk h (mkO_P (a:=shI) (x:=(a,b,c,e)) good_I ⟨⟨rfl,ha⟩,rfl⟩ (mkO_P (a:=shI) (x:=(b,c,e)) good_I ⟨⟨rfl,hb⟩,rfl⟩ (mkO_P (a:=shI) (x:=(c,e)) good_I ⟨⟨rfl,hc⟩,rfl⟩ ⟨⟨rfl,he⟩,rfl⟩)))
 simpa using h2
theorem c_l19Flush (v:Value) (x:TJournal) (w:World) (h:AV shJournal w v x) (hn:shJournal.sz x≤1048576) (hp:∀p∈x.1.2.2,0≤p.1∧p.1<x.1.2.1.length):Calls Tryz.prog 42 #[v] w (ToV shJournal ((x.1.1,flushS x.1.2.1 x.1.2.2,[]),x.2) w):=by
 have hv:=h
 obtain ⟨cs,rfl,h⟩:=h
 obtain ⟨A1,c1,A2,c2,rfl,b0,b1,b2,b3,b4,b5,b6⟩:=openJournal h
 clear h
 have hnd:=journal_sz hn
 have ua1:Up w (w.alloc (.cells #[.int .i64 x.1.1,.slice A1 x.1.2.1.length c1,.slice A2 x.1.2.2.length c2,.int .i64 x.2.1,.int .i64 x.2.2.1,.int .i64 x.2.2.2.1,.int .i64 x.2.2.2.2] 52)):=(Up.refl _).alloc _
 have uu1:=(Up.refl w).trans ua1
 have ka_1:Bk (w.alloc (.cells #[.int .i64 x.1.1,.slice A1 x.1.2.1.length c1,.slice A2 x.1.2.2.length c2,.int .i64 x.2.1,.int .i64 x.2.2.1,.int .i64 x.2.2.2.1,.int .i64 x.2.2.2.2] 52)) (w.heap.size) 52 #[.int .i64 x.1.1,.slice A1 x.1.2.1.length c1,.slice A2 x.1.2.2.length c2,.int .i64 x.2.1,.int .i64 x.2.2.1,.int .i64 x.2.2.2.1,.int .i64 x.2.2.2.2]:=by simpa using Bk.new w 52 #[.int .i64 x.1.1,.slice A1 x.1.2.1.length c1,.slice A2 x.1.2.2.length c2,.int .i64 x.2.1,.int .i64 x.2.2.1,.int .i64 x.2.2.2.1,.int .i64 x.2.2.2.2]
 have ua2:Up (w.alloc (.cells #[.int .i64 x.1.1,.slice A1 x.1.2.1.length c1,.slice A2 x.1.2.2.length c2,.int .i64 x.2.1,.int .i64 x.2.2.1,.int .i64 x.2.2.2.1,.int .i64 x.2.2.2.2] 52)) ((w.alloc (.cells #[.int .i64 x.1.1,.slice A1 x.1.2.1.length c1,.slice A2 x.1.2.2.length c2,.int .i64 x.2.1,.int .i64 x.2.2.1,.int .i64 x.2.2.2.1,.int .i64 x.2.2.2.2] 52)).alloc (.cells #[.int .i64 0,.slice none 0 0,.slice none 0 0,.int .i64 0,.int .i64 0,.int .i64 0,.int .i64 0] 52)):=(Up.refl _).alloc _
 have uu2:=uu1.trans ua2
 have ka_2:=ka_1.up ua2
 have kr_2:Bk ((w.alloc (.cells #[.int .i64 x.1.1,.slice A1 x.1.2.1.length c1,.slice A2 x.1.2.2.length c2,.int .i64 x.2.1,.int .i64 x.2.2.1,.int .i64 x.2.2.2.1,.int .i64 x.2.2.2.2] 52)).alloc (.cells #[.int .i64 0,.slice none 0 0,.slice none 0 0,.int .i64 0,.int .i64 0,.int .i64 0,.int .i64 0] 52)) (w.heap.size+1) 52 #[.int .i64 0,.slice none 0 0,.slice none 0 0,.int .i64 0,.int .i64 0,.int .i64 0,.int .i64 0]:=by simpa using Bk.new (w.alloc (.cells #[.int .i64 x.1.1,.slice A1 x.1.2.1.length c1,.slice A2 x.1.2.2.length c2,.int .i64 x.2.1,.int .i64 x.2.2.1,.int .i64 x.2.2.2.1,.int .i64 x.2.2.2.2] 52)) 52 #[.int .i64 0,.slice none 0 0,.slice none 0 0,.int .i64 0,.int .i64 0,.int .i64 0,.int .i64 0]
 have ua3:Up ((w.alloc (.cells #[.int .i64 x.1.1,.slice A1 x.1.2.1.length c1,.slice A2 x.1.2.2.length c2,.int .i64 x.2.1,.int .i64 x.2.2.1,.int .i64 x.2.2.2.1,.int .i64 x.2.2.2.2] 52)).alloc (.cells #[.int .i64 0,.slice none 0 0,.slice none 0 0,.int .i64 0,.int .i64 0,.int .i64 0,.int .i64 0] 52)) (((w.alloc (.cells #[.int .i64 x.1.1,.slice A1 x.1.2.1.length c1,.slice A2 x.1.2.2.length c2,.int .i64 x.2.1,.int .i64 x.2.2.1,.int .i64 x.2.2.2.1,.int .i64 x.2.2.2.2] 52)).alloc (.cells #[.int .i64 0,.slice none 0 0,.slice none 0 0,.int .i64 0,.int .i64 0,.int .i64 0,.int .i64 0] 52)).alloc (.cells #[.int .i64 x.1.1,.slice A1 x.1.2.1.length c1,.slice A2 x.1.2.2.length c2,.int .i64 x.2.1,.int .i64 x.2.2.1,.int .i64 x.2.2.2.1,.int .i64 x.2.2.2.2] 52)):=(Up.refl _).alloc _
 have uu3:=uu2.trans ua3
 have ka_3:=ka_2.up ua3
 have kr_3:=kr_2.up ua3
 have ko_3:Bk (((w.alloc (.cells #[.int .i64 x.1.1,.slice A1 x.1.2.1.length c1,.slice A2 x.1.2.2.length c2,.int .i64 x.2.1,.int .i64 x.2.2.1,.int .i64 x.2.2.2.1,.int .i64 x.2.2.2.2] 52)).alloc (.cells #[.int .i64 0,.slice none 0 0,.slice none 0 0,.int .i64 0,.int .i64 0,.int .i64 0,.int .i64 0] 52)).alloc (.cells #[.int .i64 x.1.1,.slice A1 x.1.2.1.length c1,.slice A2 x.1.2.2.length c2,.int .i64 x.2.1,.int .i64 x.2.2.1,.int .i64 x.2.2.2.1,.int .i64 x.2.2.2.2] 52)) (w.heap.size+1+1) 52 #[.int .i64 x.1.1,.slice A1 x.1.2.1.length c1,.slice A2 x.1.2.2.length c2,.int .i64 x.2.1,.int .i64 x.2.2.1,.int .i64 x.2.2.2.1,.int .i64 x.2.2.2.2]:=by simpa using Bk.new ((w.alloc (.cells #[.int .i64 x.1.1,.slice A1 x.1.2.1.length c1,.slice A2 x.1.2.2.length c2,.int .i64 x.2.1,.int .i64 x.2.2.1,.int .i64 x.2.2.2.1,.int .i64 x.2.2.2.2] 52)).alloc (.cells #[.int .i64 0,.slice none 0 0,.slice none 0 0,.int .i64 0,.int .i64 0,.int .i64 0,.int .i64 0] 52)) 52 #[.int .i64 x.1.1,.slice A1 x.1.2.1.length c1,.slice A2 x.1.2.2.length c2,.int .i64 x.2.1,.int .i64 x.2.2.1,.int .i64 x.2.2.2.1,.int .i64 x.2.2.2.2]
 go_enter Tryz.func42,Tryz.ntmps42
 go_wp2_with fail
 refine (c_l17Flush _ x.1 _ ⟨_,rfl,mkDisk (x:=x.1) b0 (b1.up good_S uu3) (b2.up good_Put uu3)⟩ hnd hp).mono ?_
 rintro e w4 ⟨cs1,bl,rfl,o1,nd1,u4⟩
 have uu4:=uu3.trans u4
 have ka_4:=ka_3.up u4
 have za_4:=ka_4.lt
 have kr_4:=kr_3.up u4
 have zr_4:=kr_4.lt
 have ko_4:=ko_3.up u4
 have zo_4:=ko_4.lt
 obtain ⟨D1,d1,_,D2,d2,_,rfl,_,_⟩:=openODisk o1
 have hlen:(flushS x.1.2.1 x.1.2.2).length=x.1.2.1.length:=flushS_len _ _
 dsimp only [List.length_nil] at o1 ⊢
 rw [hlen] at o1
 rw [hlen]
 have o1w:=good_Disk.own_wide o1 (lo':=w.heap.size+1+1+1) (by simp) (Nat.le_refl _)
 have go4_0:w4.cell? ⟨w.heap.size+1+1,0,none⟩=some (.int .i64 x.1.1):=ko_4.cell 0
 have fo4_0:=ko_4.frozen 0
 have go4_1:w4.cell? ⟨w.heap.size+1+1,1,none⟩=some (.slice A1 x.1.2.1.length c1):=ko_4.cell 1
 have fo4_1:=ko_4.frozen 1
 have go4_2:w4.cell? ⟨w.heap.size+1+1,2,none⟩=some (.slice A2 x.1.2.2.length c2):=ko_4.cell 2
 have fo4_2:=ko_4.frozen 2
 have go4_3:w4.cell? ⟨w.heap.size+1+1,3,none⟩=some (.int .i64 x.2.1):=ko_4.cell 3
 have fo4_3:=ko_4.frozen 3
 have go4_4:w4.cell? ⟨w.heap.size+1+1,4,none⟩=some (.int .i64 x.2.2.1):=ko_4.cell 4
 have fo4_4:=ko_4.frozen 4
 have go4_5:w4.cell? ⟨w.heap.size+1+1,5,none⟩=some (.int .i64 x.2.2.2.1):=ko_4.cell 5
 have fo4_5:=ko_4.frozen 5
 have go4_6:w4.cell? ⟨w.heap.size+1+1,6,none⟩=some (.int .i64 x.2.2.2.2):=ko_4.cell 6
 have fo4_6:=ko_4.frozen 6
 have gr4_0:w4.cell? ⟨w.heap.size+1,0,none⟩=some (.int .i64 0):=kr_4.cell 0
 have fr4_0:=kr_4.frozen 0
 have gr4_1:w4.cell? ⟨w.heap.size+1,1,none⟩=some (.slice none 0 0):=kr_4.cell 1
 have fr4_1:=kr_4.frozen 1
 have gr4_2:w4.cell? ⟨w.heap.size+1,2,none⟩=some (.slice none 0 0):=kr_4.cell 2
 have fr4_2:=kr_4.frozen 2
 have gr4_3:w4.cell? ⟨w.heap.size+1,3,none⟩=some (.int .i64 0):=kr_4.cell 3
 have fr4_3:=kr_4.frozen 3
 have gr4_4:w4.cell? ⟨w.heap.size+1,4,none⟩=some (.int .i64 0):=kr_4.cell 4
 have fr4_4:=kr_4.frozen 4
 have gr4_5:w4.cell? ⟨w.heap.size+1,5,none⟩=some (.int .i64 0):=kr_4.cell 5
 have fr4_5:=kr_4.frozen 5
 have gr4_6:w4.cell? ⟨w.heap.size+1,6,none⟩=some (.int .i64 0):=kr_4.cell 6
 have fr4_6:=kr_4.frozen 6
 have bt5:But (w.heap.size+1+1) w4 (((w4.setCell ⟨w.heap.size+1+1,0,none⟩ (.int .i64 x.1.1)).setCell ⟨w.heap.size+1+1,1,none⟩ (.slice D1 x.1.2.1.length d1)).setCell ⟨w.heap.size+1+1,2,none⟩ (.slice D2 0 d2)):=But.sets (g:=w.heap.size+1+1) [.int .i64 x.1.1,.slice D1 x.1.2.1.length d1,.slice D2 0 d2] w4 0
 have uu5:Up w (((w4.setCell ⟨w.heap.size+1+1,0,none⟩ (.int .i64 x.1.1)).setCell ⟨w.heap.size+1+1,1,none⟩ (.slice D1 x.1.2.1.length d1)).setCell ⟨w.heap.size+1+1,2,none⟩ (.slice D2 0 d2)):=uu4.but bt5 (by omega)
 have ka_5:Bk (((w4.setCell ⟨w.heap.size+1+1,0,none⟩ (.int .i64 x.1.1)).setCell ⟨w.heap.size+1+1,1,none⟩ (.slice D1 x.1.2.1.length d1)).setCell ⟨w.heap.size+1+1,2,none⟩ (.slice D2 0 d2)) (w.heap.size) 52 #[.int .i64 x.1.1,.slice A1 x.1.2.1.length c1,.slice A2 x.1.2.2.length c2,.int .i64 x.2.1,.int .i64 x.2.2.1,.int .i64 x.2.2.2.1,.int .i64 x.2.2.2.2]:=ka_4.but bt5 (by omega)
 have kr_5:Bk (((w4.setCell ⟨w.heap.size+1+1,0,none⟩ (.int .i64 x.1.1)).setCell ⟨w.heap.size+1+1,1,none⟩ (.slice D1 x.1.2.1.length d1)).setCell ⟨w.heap.size+1+1,2,none⟩ (.slice D2 0 d2)) (w.heap.size+1) 52 #[.int .i64 0,.slice none 0 0,.slice none 0 0,.int .i64 0,.int .i64 0,.int .i64 0,.int .i64 0]:=kr_4.but bt5 (by omega)
 have ko_5:Bk (((w4.setCell ⟨w.heap.size+1+1,0,none⟩ (.int .i64 x.1.1)).setCell ⟨w.heap.size+1+1,1,none⟩ (.slice D1 x.1.2.1.length d1)).setCell ⟨w.heap.size+1+1,2,none⟩ (.slice D2 0 d2)) (w.heap.size+1+1) 52 #[.int .i64 x.1.1,.slice D1 x.1.2.1.length d1,.slice D2 0 d2,.int .i64 x.2.1,.int .i64 x.2.2.1,.int .i64 x.2.2.2.1,.int .i64 x.2.2.2.2]:=ko_4.sets [.int .i64 x.1.1,.slice D1 x.1.2.1.length d1,.slice D2 0 d2] 0
 have go5_0:(((w4.setCell ⟨w.heap.size+1+1,0,none⟩ (.int .i64 x.1.1)).setCell ⟨w.heap.size+1+1,1,none⟩ (.slice D1 x.1.2.1.length d1)).setCell ⟨w.heap.size+1+1,2,none⟩ (.slice D2 0 d2)).cell? ⟨w.heap.size+1+1,0,none⟩=some (.int .i64 x.1.1):=ko_5.cell 0
 have fo5_0:=ko_5.frozen 0
 have go5_1:(((w4.setCell ⟨w.heap.size+1+1,0,none⟩ (.int .i64 x.1.1)).setCell ⟨w.heap.size+1+1,1,none⟩ (.slice D1 x.1.2.1.length d1)).setCell ⟨w.heap.size+1+1,2,none⟩ (.slice D2 0 d2)).cell? ⟨w.heap.size+1+1,1,none⟩=some (.slice D1 x.1.2.1.length d1):=ko_5.cell 1
 have fo5_1:=ko_5.frozen 1
 have go5_2:(((w4.setCell ⟨w.heap.size+1+1,0,none⟩ (.int .i64 x.1.1)).setCell ⟨w.heap.size+1+1,1,none⟩ (.slice D1 x.1.2.1.length d1)).setCell ⟨w.heap.size+1+1,2,none⟩ (.slice D2 0 d2)).cell? ⟨w.heap.size+1+1,2,none⟩=some (.slice D2 0 d2):=ko_5.cell 2
 have fo5_2:=ko_5.frozen 2
 have go5_3:(((w4.setCell ⟨w.heap.size+1+1,0,none⟩ (.int .i64 x.1.1)).setCell ⟨w.heap.size+1+1,1,none⟩ (.slice D1 x.1.2.1.length d1)).setCell ⟨w.heap.size+1+1,2,none⟩ (.slice D2 0 d2)).cell? ⟨w.heap.size+1+1,3,none⟩=some (.int .i64 x.2.1):=ko_5.cell 3
 have fo5_3:=ko_5.frozen 3
 have go5_4:(((w4.setCell ⟨w.heap.size+1+1,0,none⟩ (.int .i64 x.1.1)).setCell ⟨w.heap.size+1+1,1,none⟩ (.slice D1 x.1.2.1.length d1)).setCell ⟨w.heap.size+1+1,2,none⟩ (.slice D2 0 d2)).cell? ⟨w.heap.size+1+1,4,none⟩=some (.int .i64 x.2.2.1):=ko_5.cell 4
 have fo5_4:=ko_5.frozen 4
 have go5_5:(((w4.setCell ⟨w.heap.size+1+1,0,none⟩ (.int .i64 x.1.1)).setCell ⟨w.heap.size+1+1,1,none⟩ (.slice D1 x.1.2.1.length d1)).setCell ⟨w.heap.size+1+1,2,none⟩ (.slice D2 0 d2)).cell? ⟨w.heap.size+1+1,5,none⟩=some (.int .i64 x.2.2.2.1):=ko_5.cell 5
 have fo5_5:=ko_5.frozen 5
 have go5_6:(((w4.setCell ⟨w.heap.size+1+1,0,none⟩ (.int .i64 x.1.1)).setCell ⟨w.heap.size+1+1,1,none⟩ (.slice D1 x.1.2.1.length d1)).setCell ⟨w.heap.size+1+1,2,none⟩ (.slice D2 0 d2)).cell? ⟨w.heap.size+1+1,6,none⟩=some (.int .i64 x.2.2.2.2):=ko_5.cell 6
 have fo5_6:=ko_5.frozen 6
 have gr5_0:(((w4.setCell ⟨w.heap.size+1+1,0,none⟩ (.int .i64 x.1.1)).setCell ⟨w.heap.size+1+1,1,none⟩ (.slice D1 x.1.2.1.length d1)).setCell ⟨w.heap.size+1+1,2,none⟩ (.slice D2 0 d2)).cell? ⟨w.heap.size+1,0,none⟩=some (.int .i64 0):=kr_5.cell 0
 have fr5_0:=kr_5.frozen 0
 have gr5_1:(((w4.setCell ⟨w.heap.size+1+1,0,none⟩ (.int .i64 x.1.1)).setCell ⟨w.heap.size+1+1,1,none⟩ (.slice D1 x.1.2.1.length d1)).setCell ⟨w.heap.size+1+1,2,none⟩ (.slice D2 0 d2)).cell? ⟨w.heap.size+1,1,none⟩=some (.slice none 0 0):=kr_5.cell 1
 have fr5_1:=kr_5.frozen 1
 have gr5_2:(((w4.setCell ⟨w.heap.size+1+1,0,none⟩ (.int .i64 x.1.1)).setCell ⟨w.heap.size+1+1,1,none⟩ (.slice D1 x.1.2.1.length d1)).setCell ⟨w.heap.size+1+1,2,none⟩ (.slice D2 0 d2)).cell? ⟨w.heap.size+1,2,none⟩=some (.slice none 0 0):=kr_5.cell 2
 have fr5_2:=kr_5.frozen 2
 have gr5_3:(((w4.setCell ⟨w.heap.size+1+1,0,none⟩ (.int .i64 x.1.1)).setCell ⟨w.heap.size+1+1,1,none⟩ (.slice D1 x.1.2.1.length d1)).setCell ⟨w.heap.size+1+1,2,none⟩ (.slice D2 0 d2)).cell? ⟨w.heap.size+1,3,none⟩=some (.int .i64 0):=kr_5.cell 3
 have fr5_3:=kr_5.frozen 3
 have gr5_4:(((w4.setCell ⟨w.heap.size+1+1,0,none⟩ (.int .i64 x.1.1)).setCell ⟨w.heap.size+1+1,1,none⟩ (.slice D1 x.1.2.1.length d1)).setCell ⟨w.heap.size+1+1,2,none⟩ (.slice D2 0 d2)).cell? ⟨w.heap.size+1,4,none⟩=some (.int .i64 0):=kr_5.cell 4
 have fr5_4:=kr_5.frozen 4
 have gr5_5:(((w4.setCell ⟨w.heap.size+1+1,0,none⟩ (.int .i64 x.1.1)).setCell ⟨w.heap.size+1+1,1,none⟩ (.slice D1 x.1.2.1.length d1)).setCell ⟨w.heap.size+1+1,2,none⟩ (.slice D2 0 d2)).cell? ⟨w.heap.size+1,5,none⟩=some (.int .i64 0):=kr_5.cell 5
 have fr5_5:=kr_5.frozen 5
 have gr5_6:(((w4.setCell ⟨w.heap.size+1+1,0,none⟩ (.int .i64 x.1.1)).setCell ⟨w.heap.size+1+1,1,none⟩ (.slice D1 x.1.2.1.length d1)).setCell ⟨w.heap.size+1+1,2,none⟩ (.slice D2 0 d2)).cell? ⟨w.heap.size+1,6,none⟩=some (.int .i64 0):=kr_5.cell 6
 have fr5_6:=kr_5.frozen 6
 go_wp2_with fail
 have q1:shJournal.own (((w4.setCell ⟨w.heap.size+1+1,0,none⟩ (.int .i64 x.1.1)).setCell ⟨w.heap.size+1+1,1,none⟩ (.slice D1 x.1.2.1.length d1)).setCell ⟨w.heap.size+1+1,2,none⟩ (.slice D2 0 d2)) (w.heap.size+1+1+1) (((w4.setCell ⟨w.heap.size+1+1,0,none⟩ (.int .i64 x.1.1)).setCell ⟨w.heap.size+1+1,1,none⟩ (.slice D1 x.1.2.1.length d1)).setCell ⟨w.heap.size+1+1,2,none⟩ (.slice D2 0 d2)).heap.size [.int .i64 x.1.1,.slice D1 x.1.2.1.length d1,.slice D2 0 d2,.int .i64 x.2.1,.int .i64 x.2.2.1,.int .i64 x.2.2.2.1,.int .i64 x.2.2.2.2] ((x.1.1,flushS x.1.2.1 x.1.2.2,[]),x.2) bl:=ownJ (own_set good_Disk o1w (w.heap.size+1+1) 0 [.int .i64 x.1.1,.slice D1 x.1.2.1.length d1,.slice D2 0 d2] (by omega)) b3 b4 b5 b6
 refine bodyPost_ret (v:=.agg #[.int .i64 x.1.1,.slice D1 x.1.2.1.length d1,.slice D2 0 d2,.int .i64 x.2.1,.int .i64 x.2.2.1,.int .i64 x.2.2.2.1,.int .i64 x.2.2.2.2]) (by simp [results,Tryz.results42,go_sem,gr5_0,gr5_1,gr5_2,gr5_3,gr5_4,gr5_5,gr5_6]) rfl ?_
 exact ⟨[.int .i64 x.1.1,.slice D1 x.1.2.1.length d1,.slice D2 0 d2,.int .i64 x.2.1,.int .i64 x.2.2.1,.int .i64 x.2.2.2.1,.int .i64 x.2.2.2.2],bl,rfl,good_Journal.own_wide (own_set good_Journal q1 (w.heap.size+1) 0 [.int .i64 x.1.1,.slice D1 x.1.2.1.length d1,.slice D2 0 d2,.int .i64 x.2.1,.int .i64 x.2.2.1,.int .i64 x.2.2.2.1,.int .i64 x.2.2.2.2] (by omega)) (by omega) (Nat.le_refl _),nd1,uu5.sets (g:=w.heap.size+1) (by omega) 0 [.int .i64 x.1.1,.slice D1 x.1.2.1.length d1,.slice D2 0 d2,.int .i64 x.2.1,.int .i64 x.2.2.1,.int .i64 x.2.2.2.1,.int .i64 x.2.2.2.2]⟩
theorem c_l19Own (v:Value) (x:TJournal) (w:World) (h:AV shJournal w v x) (hn:shJournal.sz x≤1048576):Calls Tryz.prog 85 #[v] w (ToV shJournal (x.1,x.2) w):=by
 have hv:=h
 obtain ⟨cs,rfl,h⟩:=h
 obtain ⟨A1,c1,A2,c2,rfl,b0,b1,b2,b3,b4,b5,b6⟩:=openJournal h
 clear h
 have hnd:=journal_sz hn
 have ua1:Up w (w.alloc (.cells #[.int .i64 x.1.1,.slice A1 x.1.2.1.length c1,.slice A2 x.1.2.2.length c2,.int .i64 x.2.1,.int .i64 x.2.2.1,.int .i64 x.2.2.2.1,.int .i64 x.2.2.2.2] 52)):=(Up.refl _).alloc _
 have uu1:=(Up.refl w).trans ua1
 have ka_1:Bk (w.alloc (.cells #[.int .i64 x.1.1,.slice A1 x.1.2.1.length c1,.slice A2 x.1.2.2.length c2,.int .i64 x.2.1,.int .i64 x.2.2.1,.int .i64 x.2.2.2.1,.int .i64 x.2.2.2.2] 52)) (w.heap.size) 52 #[.int .i64 x.1.1,.slice A1 x.1.2.1.length c1,.slice A2 x.1.2.2.length c2,.int .i64 x.2.1,.int .i64 x.2.2.1,.int .i64 x.2.2.2.1,.int .i64 x.2.2.2.2]:=by simpa using Bk.new w 52 #[.int .i64 x.1.1,.slice A1 x.1.2.1.length c1,.slice A2 x.1.2.2.length c2,.int .i64 x.2.1,.int .i64 x.2.2.1,.int .i64 x.2.2.2.1,.int .i64 x.2.2.2.2]
 have ua2:Up (w.alloc (.cells #[.int .i64 x.1.1,.slice A1 x.1.2.1.length c1,.slice A2 x.1.2.2.length c2,.int .i64 x.2.1,.int .i64 x.2.2.1,.int .i64 x.2.2.2.1,.int .i64 x.2.2.2.2] 52)) ((w.alloc (.cells #[.int .i64 x.1.1,.slice A1 x.1.2.1.length c1,.slice A2 x.1.2.2.length c2,.int .i64 x.2.1,.int .i64 x.2.2.1,.int .i64 x.2.2.2.1,.int .i64 x.2.2.2.2] 52)).alloc (.cells #[.int .i64 0,.slice none 0 0,.slice none 0 0,.int .i64 0,.int .i64 0,.int .i64 0,.int .i64 0] 52)):=(Up.refl _).alloc _
 have uu2:=uu1.trans ua2
 have ka_2:=ka_1.up ua2
 have kr_2:Bk ((w.alloc (.cells #[.int .i64 x.1.1,.slice A1 x.1.2.1.length c1,.slice A2 x.1.2.2.length c2,.int .i64 x.2.1,.int .i64 x.2.2.1,.int .i64 x.2.2.2.1,.int .i64 x.2.2.2.2] 52)).alloc (.cells #[.int .i64 0,.slice none 0 0,.slice none 0 0,.int .i64 0,.int .i64 0,.int .i64 0,.int .i64 0] 52)) (w.heap.size+1) 52 #[.int .i64 0,.slice none 0 0,.slice none 0 0,.int .i64 0,.int .i64 0,.int .i64 0,.int .i64 0]:=by simpa using Bk.new (w.alloc (.cells #[.int .i64 x.1.1,.slice A1 x.1.2.1.length c1,.slice A2 x.1.2.2.length c2,.int .i64 x.2.1,.int .i64 x.2.2.1,.int .i64 x.2.2.2.1,.int .i64 x.2.2.2.2] 52)) 52 #[.int .i64 0,.slice none 0 0,.slice none 0 0,.int .i64 0,.int .i64 0,.int .i64 0,.int .i64 0]
 have ua3:Up ((w.alloc (.cells #[.int .i64 x.1.1,.slice A1 x.1.2.1.length c1,.slice A2 x.1.2.2.length c2,.int .i64 x.2.1,.int .i64 x.2.2.1,.int .i64 x.2.2.2.1,.int .i64 x.2.2.2.2] 52)).alloc (.cells #[.int .i64 0,.slice none 0 0,.slice none 0 0,.int .i64 0,.int .i64 0,.int .i64 0,.int .i64 0] 52)) (((w.alloc (.cells #[.int .i64 x.1.1,.slice A1 x.1.2.1.length c1,.slice A2 x.1.2.2.length c2,.int .i64 x.2.1,.int .i64 x.2.2.1,.int .i64 x.2.2.2.1,.int .i64 x.2.2.2.2] 52)).alloc (.cells #[.int .i64 0,.slice none 0 0,.slice none 0 0,.int .i64 0,.int .i64 0,.int .i64 0,.int .i64 0] 52)).alloc (.cells #[.int .i64 x.1.1,.slice A1 x.1.2.1.length c1,.slice A2 x.1.2.2.length c2,.int .i64 x.2.1,.int .i64 x.2.2.1,.int .i64 x.2.2.2.1,.int .i64 x.2.2.2.2] 52)):=(Up.refl _).alloc _
 have uu3:=uu2.trans ua3
 have ka_3:=ka_2.up ua3
 have kr_3:=kr_2.up ua3
 have ko_3:Bk (((w.alloc (.cells #[.int .i64 x.1.1,.slice A1 x.1.2.1.length c1,.slice A2 x.1.2.2.length c2,.int .i64 x.2.1,.int .i64 x.2.2.1,.int .i64 x.2.2.2.1,.int .i64 x.2.2.2.2] 52)).alloc (.cells #[.int .i64 0,.slice none 0 0,.slice none 0 0,.int .i64 0,.int .i64 0,.int .i64 0,.int .i64 0] 52)).alloc (.cells #[.int .i64 x.1.1,.slice A1 x.1.2.1.length c1,.slice A2 x.1.2.2.length c2,.int .i64 x.2.1,.int .i64 x.2.2.1,.int .i64 x.2.2.2.1,.int .i64 x.2.2.2.2] 52)) (w.heap.size+1+1) 52 #[.int .i64 x.1.1,.slice A1 x.1.2.1.length c1,.slice A2 x.1.2.2.length c2,.int .i64 x.2.1,.int .i64 x.2.2.1,.int .i64 x.2.2.2.1,.int .i64 x.2.2.2.2]:=by simpa using Bk.new ((w.alloc (.cells #[.int .i64 x.1.1,.slice A1 x.1.2.1.length c1,.slice A2 x.1.2.2.length c2,.int .i64 x.2.1,.int .i64 x.2.2.1,.int .i64 x.2.2.2.1,.int .i64 x.2.2.2.2] 52)).alloc (.cells #[.int .i64 0,.slice none 0 0,.slice none 0 0,.int .i64 0,.int .i64 0,.int .i64 0,.int .i64 0] 52)) 52 #[.int .i64 x.1.1,.slice A1 x.1.2.1.length c1,.slice A2 x.1.2.2.length c2,.int .i64 x.2.1,.int .i64 x.2.2.1,.int .i64 x.2.2.2.1,.int .i64 x.2.2.2.2]
 go_enter Tryz.func85,Tryz.ntmps85
 go_wp2_with fail
 refine (c_l17Own _ x.1 _ ⟨_,rfl,mkDisk (x:=x.1) b0 (b1.up good_S uu3) (b2.up good_Put uu3)⟩ hnd).mono ?_
 rintro e w4 ⟨cs1,bl,rfl,o1,nd1,u4⟩
 have uu4:=uu3.trans u4
 have ka_4:=ka_3.up u4
 have za_4:=ka_4.lt
 have kr_4:=kr_3.up u4
 have zr_4:=kr_4.lt
 have ko_4:=ko_3.up u4
 have zo_4:=ko_4.lt
 obtain ⟨D1,d1,_,D2,d2,_,rfl,_,_⟩:=openODisk o1
 have o1w:=good_Disk.own_wide o1 (lo':=w.heap.size+1+1+1) (by simp) (Nat.le_refl _)
 have go4_0:w4.cell? ⟨w.heap.size+1+1,0,none⟩=some (.int .i64 x.1.1):=ko_4.cell 0
 have fo4_0:=ko_4.frozen 0
 have go4_1:w4.cell? ⟨w.heap.size+1+1,1,none⟩=some (.slice A1 x.1.2.1.length c1):=ko_4.cell 1
 have fo4_1:=ko_4.frozen 1
 have go4_2:w4.cell? ⟨w.heap.size+1+1,2,none⟩=some (.slice A2 x.1.2.2.length c2):=ko_4.cell 2
 have fo4_2:=ko_4.frozen 2
 have go4_3:w4.cell? ⟨w.heap.size+1+1,3,none⟩=some (.int .i64 x.2.1):=ko_4.cell 3
 have fo4_3:=ko_4.frozen 3
 have go4_4:w4.cell? ⟨w.heap.size+1+1,4,none⟩=some (.int .i64 x.2.2.1):=ko_4.cell 4
 have fo4_4:=ko_4.frozen 4
 have go4_5:w4.cell? ⟨w.heap.size+1+1,5,none⟩=some (.int .i64 x.2.2.2.1):=ko_4.cell 5
 have fo4_5:=ko_4.frozen 5
 have go4_6:w4.cell? ⟨w.heap.size+1+1,6,none⟩=some (.int .i64 x.2.2.2.2):=ko_4.cell 6
 have fo4_6:=ko_4.frozen 6
 have gr4_0:w4.cell? ⟨w.heap.size+1,0,none⟩=some (.int .i64 0):=kr_4.cell 0
 have fr4_0:=kr_4.frozen 0
 have gr4_1:w4.cell? ⟨w.heap.size+1,1,none⟩=some (.slice none 0 0):=kr_4.cell 1
 have fr4_1:=kr_4.frozen 1
 have gr4_2:w4.cell? ⟨w.heap.size+1,2,none⟩=some (.slice none 0 0):=kr_4.cell 2
 have fr4_2:=kr_4.frozen 2
 have gr4_3:w4.cell? ⟨w.heap.size+1,3,none⟩=some (.int .i64 0):=kr_4.cell 3
 have fr4_3:=kr_4.frozen 3
 have gr4_4:w4.cell? ⟨w.heap.size+1,4,none⟩=some (.int .i64 0):=kr_4.cell 4
 have fr4_4:=kr_4.frozen 4
 have gr4_5:w4.cell? ⟨w.heap.size+1,5,none⟩=some (.int .i64 0):=kr_4.cell 5
 have fr4_5:=kr_4.frozen 5
 have gr4_6:w4.cell? ⟨w.heap.size+1,6,none⟩=some (.int .i64 0):=kr_4.cell 6
 have fr4_6:=kr_4.frozen 6
 have bt5:But (w.heap.size+1+1) w4 (((w4.setCell ⟨w.heap.size+1+1,0,none⟩ (.int .i64 x.1.1)).setCell ⟨w.heap.size+1+1,1,none⟩ (.slice D1 x.1.2.1.length d1)).setCell ⟨w.heap.size+1+1,2,none⟩ (.slice D2 x.1.2.2.length d2)):=But.sets (g:=w.heap.size+1+1) [.int .i64 x.1.1,.slice D1 x.1.2.1.length d1,.slice D2 x.1.2.2.length d2] w4 0
 have uu5:Up w (((w4.setCell ⟨w.heap.size+1+1,0,none⟩ (.int .i64 x.1.1)).setCell ⟨w.heap.size+1+1,1,none⟩ (.slice D1 x.1.2.1.length d1)).setCell ⟨w.heap.size+1+1,2,none⟩ (.slice D2 x.1.2.2.length d2)):=uu4.but bt5 (by omega)
 have ka_5:Bk (((w4.setCell ⟨w.heap.size+1+1,0,none⟩ (.int .i64 x.1.1)).setCell ⟨w.heap.size+1+1,1,none⟩ (.slice D1 x.1.2.1.length d1)).setCell ⟨w.heap.size+1+1,2,none⟩ (.slice D2 x.1.2.2.length d2)) (w.heap.size) 52 #[.int .i64 x.1.1,.slice A1 x.1.2.1.length c1,.slice A2 x.1.2.2.length c2,.int .i64 x.2.1,.int .i64 x.2.2.1,.int .i64 x.2.2.2.1,.int .i64 x.2.2.2.2]:=ka_4.but bt5 (by omega)
 have kr_5:Bk (((w4.setCell ⟨w.heap.size+1+1,0,none⟩ (.int .i64 x.1.1)).setCell ⟨w.heap.size+1+1,1,none⟩ (.slice D1 x.1.2.1.length d1)).setCell ⟨w.heap.size+1+1,2,none⟩ (.slice D2 x.1.2.2.length d2)) (w.heap.size+1) 52 #[.int .i64 0,.slice none 0 0,.slice none 0 0,.int .i64 0,.int .i64 0,.int .i64 0,.int .i64 0]:=kr_4.but bt5 (by omega)
 have ko_5:Bk (((w4.setCell ⟨w.heap.size+1+1,0,none⟩ (.int .i64 x.1.1)).setCell ⟨w.heap.size+1+1,1,none⟩ (.slice D1 x.1.2.1.length d1)).setCell ⟨w.heap.size+1+1,2,none⟩ (.slice D2 x.1.2.2.length d2)) (w.heap.size+1+1) 52 #[.int .i64 x.1.1,.slice D1 x.1.2.1.length d1,.slice D2 x.1.2.2.length d2,.int .i64 x.2.1,.int .i64 x.2.2.1,.int .i64 x.2.2.2.1,.int .i64 x.2.2.2.2]:=ko_4.sets [.int .i64 x.1.1,.slice D1 x.1.2.1.length d1,.slice D2 x.1.2.2.length d2] 0
 have go5_0:(((w4.setCell ⟨w.heap.size+1+1,0,none⟩ (.int .i64 x.1.1)).setCell ⟨w.heap.size+1+1,1,none⟩ (.slice D1 x.1.2.1.length d1)).setCell ⟨w.heap.size+1+1,2,none⟩ (.slice D2 x.1.2.2.length d2)).cell? ⟨w.heap.size+1+1,0,none⟩=some (.int .i64 x.1.1):=ko_5.cell 0
 have fo5_0:=ko_5.frozen 0
 have go5_1:(((w4.setCell ⟨w.heap.size+1+1,0,none⟩ (.int .i64 x.1.1)).setCell ⟨w.heap.size+1+1,1,none⟩ (.slice D1 x.1.2.1.length d1)).setCell ⟨w.heap.size+1+1,2,none⟩ (.slice D2 x.1.2.2.length d2)).cell? ⟨w.heap.size+1+1,1,none⟩=some (.slice D1 x.1.2.1.length d1):=ko_5.cell 1
 have fo5_1:=ko_5.frozen 1
 have go5_2:(((w4.setCell ⟨w.heap.size+1+1,0,none⟩ (.int .i64 x.1.1)).setCell ⟨w.heap.size+1+1,1,none⟩ (.slice D1 x.1.2.1.length d1)).setCell ⟨w.heap.size+1+1,2,none⟩ (.slice D2 x.1.2.2.length d2)).cell? ⟨w.heap.size+1+1,2,none⟩=some (.slice D2 x.1.2.2.length d2):=ko_5.cell 2
 have fo5_2:=ko_5.frozen 2
 have go5_3:(((w4.setCell ⟨w.heap.size+1+1,0,none⟩ (.int .i64 x.1.1)).setCell ⟨w.heap.size+1+1,1,none⟩ (.slice D1 x.1.2.1.length d1)).setCell ⟨w.heap.size+1+1,2,none⟩ (.slice D2 x.1.2.2.length d2)).cell? ⟨w.heap.size+1+1,3,none⟩=some (.int .i64 x.2.1):=ko_5.cell 3
 have fo5_3:=ko_5.frozen 3
 have go5_4:(((w4.setCell ⟨w.heap.size+1+1,0,none⟩ (.int .i64 x.1.1)).setCell ⟨w.heap.size+1+1,1,none⟩ (.slice D1 x.1.2.1.length d1)).setCell ⟨w.heap.size+1+1,2,none⟩ (.slice D2 x.1.2.2.length d2)).cell? ⟨w.heap.size+1+1,4,none⟩=some (.int .i64 x.2.2.1):=ko_5.cell 4
 have fo5_4:=ko_5.frozen 4
 have go5_5:(((w4.setCell ⟨w.heap.size+1+1,0,none⟩ (.int .i64 x.1.1)).setCell ⟨w.heap.size+1+1,1,none⟩ (.slice D1 x.1.2.1.length d1)).setCell ⟨w.heap.size+1+1,2,none⟩ (.slice D2 x.1.2.2.length d2)).cell? ⟨w.heap.size+1+1,5,none⟩=some (.int .i64 x.2.2.2.1):=ko_5.cell 5
 have fo5_5:=ko_5.frozen 5
 have go5_6:(((w4.setCell ⟨w.heap.size+1+1,0,none⟩ (.int .i64 x.1.1)).setCell ⟨w.heap.size+1+1,1,none⟩ (.slice D1 x.1.2.1.length d1)).setCell ⟨w.heap.size+1+1,2,none⟩ (.slice D2 x.1.2.2.length d2)).cell? ⟨w.heap.size+1+1,6,none⟩=some (.int .i64 x.2.2.2.2):=ko_5.cell 6
 have fo5_6:=ko_5.frozen 6
 have gr5_0:(((w4.setCell ⟨w.heap.size+1+1,0,none⟩ (.int .i64 x.1.1)).setCell ⟨w.heap.size+1+1,1,none⟩ (.slice D1 x.1.2.1.length d1)).setCell ⟨w.heap.size+1+1,2,none⟩ (.slice D2 x.1.2.2.length d2)).cell? ⟨w.heap.size+1,0,none⟩=some (.int .i64 0):=kr_5.cell 0
 have fr5_0:=kr_5.frozen 0
 have gr5_1:(((w4.setCell ⟨w.heap.size+1+1,0,none⟩ (.int .i64 x.1.1)).setCell ⟨w.heap.size+1+1,1,none⟩ (.slice D1 x.1.2.1.length d1)).setCell ⟨w.heap.size+1+1,2,none⟩ (.slice D2 x.1.2.2.length d2)).cell? ⟨w.heap.size+1,1,none⟩=some (.slice none 0 0):=kr_5.cell 1
 have fr5_1:=kr_5.frozen 1
 have gr5_2:(((w4.setCell ⟨w.heap.size+1+1,0,none⟩ (.int .i64 x.1.1)).setCell ⟨w.heap.size+1+1,1,none⟩ (.slice D1 x.1.2.1.length d1)).setCell ⟨w.heap.size+1+1,2,none⟩ (.slice D2 x.1.2.2.length d2)).cell? ⟨w.heap.size+1,2,none⟩=some (.slice none 0 0):=kr_5.cell 2
 have fr5_2:=kr_5.frozen 2
 have gr5_3:(((w4.setCell ⟨w.heap.size+1+1,0,none⟩ (.int .i64 x.1.1)).setCell ⟨w.heap.size+1+1,1,none⟩ (.slice D1 x.1.2.1.length d1)).setCell ⟨w.heap.size+1+1,2,none⟩ (.slice D2 x.1.2.2.length d2)).cell? ⟨w.heap.size+1,3,none⟩=some (.int .i64 0):=kr_5.cell 3
 have fr5_3:=kr_5.frozen 3
 have gr5_4:(((w4.setCell ⟨w.heap.size+1+1,0,none⟩ (.int .i64 x.1.1)).setCell ⟨w.heap.size+1+1,1,none⟩ (.slice D1 x.1.2.1.length d1)).setCell ⟨w.heap.size+1+1,2,none⟩ (.slice D2 x.1.2.2.length d2)).cell? ⟨w.heap.size+1,4,none⟩=some (.int .i64 0):=kr_5.cell 4
 have fr5_4:=kr_5.frozen 4
 have gr5_5:(((w4.setCell ⟨w.heap.size+1+1,0,none⟩ (.int .i64 x.1.1)).setCell ⟨w.heap.size+1+1,1,none⟩ (.slice D1 x.1.2.1.length d1)).setCell ⟨w.heap.size+1+1,2,none⟩ (.slice D2 x.1.2.2.length d2)).cell? ⟨w.heap.size+1,5,none⟩=some (.int .i64 0):=kr_5.cell 5
 have fr5_5:=kr_5.frozen 5
 have gr5_6:(((w4.setCell ⟨w.heap.size+1+1,0,none⟩ (.int .i64 x.1.1)).setCell ⟨w.heap.size+1+1,1,none⟩ (.slice D1 x.1.2.1.length d1)).setCell ⟨w.heap.size+1+1,2,none⟩ (.slice D2 x.1.2.2.length d2)).cell? ⟨w.heap.size+1,6,none⟩=some (.int .i64 0):=kr_5.cell 6
 have fr5_6:=kr_5.frozen 6
 go_wp2_with fail
 have q1:shJournal.own (((w4.setCell ⟨w.heap.size+1+1,0,none⟩ (.int .i64 x.1.1)).setCell ⟨w.heap.size+1+1,1,none⟩ (.slice D1 x.1.2.1.length d1)).setCell ⟨w.heap.size+1+1,2,none⟩ (.slice D2 x.1.2.2.length d2)) (w.heap.size+1+1+1) (((w4.setCell ⟨w.heap.size+1+1,0,none⟩ (.int .i64 x.1.1)).setCell ⟨w.heap.size+1+1,1,none⟩ (.slice D1 x.1.2.1.length d1)).setCell ⟨w.heap.size+1+1,2,none⟩ (.slice D2 x.1.2.2.length d2)).heap.size [.int .i64 x.1.1,.slice D1 x.1.2.1.length d1,.slice D2 x.1.2.2.length d2,.int .i64 x.2.1,.int .i64 x.2.2.1,.int .i64 x.2.2.2.1,.int .i64 x.2.2.2.2] (x.1,x.2) bl:=ownJ (own_set good_Disk o1w (w.heap.size+1+1) 0 [.int .i64 x.1.1,.slice D1 x.1.2.1.length d1,.slice D2 x.1.2.2.length d2] (by omega)) b3 b4 b5 b6
 refine bodyPost_ret (v:=.agg #[.int .i64 x.1.1,.slice D1 x.1.2.1.length d1,.slice D2 x.1.2.2.length d2,.int .i64 x.2.1,.int .i64 x.2.2.1,.int .i64 x.2.2.2.1,.int .i64 x.2.2.2.2]) (by simp [results,Tryz.results85,go_sem,gr5_0,gr5_1,gr5_2,gr5_3,gr5_4,gr5_5,gr5_6]) rfl ?_
 exact ⟨[.int .i64 x.1.1,.slice D1 x.1.2.1.length d1,.slice D2 x.1.2.2.length d2,.int .i64 x.2.1,.int .i64 x.2.2.1,.int .i64 x.2.2.2.1,.int .i64 x.2.2.2.2],bl,rfl,good_Journal.own_wide (own_set good_Journal q1 (w.heap.size+1) 0 [.int .i64 x.1.1,.slice D1 x.1.2.1.length d1,.slice D2 x.1.2.2.length d2,.int .i64 x.2.1,.int .i64 x.2.2.1,.int .i64 x.2.2.2.1,.int .i64 x.2.2.2.2] (by omega)) (by omega) (Nat.le_refl _),nd1,uu5.sets (g:=w.heap.size+1) (by omega) 0 [.int .i64 x.1.1,.slice D1 x.1.2.1.length d1,.slice D2 x.1.2.2.length d2,.int .i64 x.2.1,.int .i64 x.2.2.1,.int .i64 x.2.2.2.1,.int .i64 x.2.2.2.2]⟩
theorem c_copyJournal (v:Value) (x:TJournal) (w:World) (h:AV shJournal w v x) (hn:shJournal.sz x≤1048576):Calls Tryz.prog 55 #[v] w fun e w'=>e=.returned (.pointer (some ⟨w.heap.size,0,none⟩)) ∧
   ∃D1 d1 bl1 D2 d2 bl2,Bk w' w.heap.size 52 #[.int .i64 x.1.1,.slice D1 x.1.2.1.length d1,.slice D2 x.1.2.2.length d2,.int .i64 x.2.1,.int .i64 x.2.2.1,.int .i64 x.2.2.2.1,.int .i64 x.2.2.2.2]∧SO shS w' (w.heap.size+1) w'.heap.size D1 d1 x.1.2.1 bl1∧SO shPut w' (w.heap.size+1) w'.heap.size D2 d2 x.1.2.2 bl2∧(bl1++bl2).Nodup∧Up w w':=by
 have hv:=h
 obtain ⟨cs,rfl,h⟩:=h
 obtain ⟨A1,c1,A2,c2,rfl,b0,b1,b2,b3,b4,b5,b6⟩:=openJournal h
 clear h
 have hnd:=journal_sz hn
 have ua1:Up w (w.alloc (.cells #[.int .i64 x.1.1,.slice A1 x.1.2.1.length c1,.slice A2 x.1.2.2.length c2,.int .i64 x.2.1,.int .i64 x.2.2.1,.int .i64 x.2.2.2.1,.int .i64 x.2.2.2.2] 52)):=(Up.refl _).alloc _
 have uu1:=(Up.refl w).trans ua1
 have ka_1:Bk (w.alloc (.cells #[.int .i64 x.1.1,.slice A1 x.1.2.1.length c1,.slice A2 x.1.2.2.length c2,.int .i64 x.2.1,.int .i64 x.2.2.1,.int .i64 x.2.2.2.1,.int .i64 x.2.2.2.2] 52)) (w.heap.size) 52 #[.int .i64 x.1.1,.slice A1 x.1.2.1.length c1,.slice A2 x.1.2.2.length c2,.int .i64 x.2.1,.int .i64 x.2.2.1,.int .i64 x.2.2.2.1,.int .i64 x.2.2.2.2]:=by simpa using Bk.new w 52 #[.int .i64 x.1.1,.slice A1 x.1.2.1.length c1,.slice A2 x.1.2.2.length c2,.int .i64 x.2.1,.int .i64 x.2.2.1,.int .i64 x.2.2.2.1,.int .i64 x.2.2.2.2]
 go_enter Tryz.func55,Tryz.ntmps55
 go_wp2_with fail
 refine (c_copyDisk _ x.1 _ ⟨_,rfl,mkDisk (x:=x.1) b0 (b1.up good_S uu1) (b2.up good_Put uu1)⟩ hnd).mono ?_
 rintro e w2 ⟨cs1,bl,rfl,o1,nd1,u2⟩
 have uu2:=uu1.trans u2
 have ka_2:=ka_1.up u2
 have za_2:=ka_2.lt
 obtain ⟨D1,d1,bl1,D2,d2,bl2,rfl,rfl,_,s1,s2⟩:=openODisk o1
 have ga2_0:w2.cell? ⟨w.heap.size,0,none⟩=some (.int .i64 x.1.1):=ka_2.cell 0
 have fa2_0:=ka_2.frozen 0
 have ga2_1:w2.cell? ⟨w.heap.size,1,none⟩=some (.slice A1 x.1.2.1.length c1):=ka_2.cell 1
 have fa2_1:=ka_2.frozen 1
 have ga2_2:w2.cell? ⟨w.heap.size,2,none⟩=some (.slice A2 x.1.2.2.length c2):=ka_2.cell 2
 have fa2_2:=ka_2.frozen 2
 have ga2_3:w2.cell? ⟨w.heap.size,3,none⟩=some (.int .i64 x.2.1):=ka_2.cell 3
 have fa2_3:=ka_2.frozen 3
 have ga2_4:w2.cell? ⟨w.heap.size,4,none⟩=some (.int .i64 x.2.2.1):=ka_2.cell 4
 have fa2_4:=ka_2.frozen 4
 have ga2_5:w2.cell? ⟨w.heap.size,5,none⟩=some (.int .i64 x.2.2.2.1):=ka_2.cell 5
 have fa2_5:=ka_2.frozen 5
 have ga2_6:w2.cell? ⟨w.heap.size,6,none⟩=some (.int .i64 x.2.2.2.2):=ka_2.cell 6
 have fa2_6:=ka_2.frozen 6
 go_wp2_with fail
 have bt3:But (w.heap.size) w2 (((w2.setCell ⟨w.heap.size,0,none⟩ (.int .i64 x.1.1)).setCell ⟨w.heap.size,1,none⟩ (.slice D1 x.1.2.1.length d1)).setCell ⟨w.heap.size,2,none⟩ (.slice D2 x.1.2.2.length d2)):=But.sets (g:=w.heap.size) [.int .i64 x.1.1,.slice D1 x.1.2.1.length d1,.slice D2 x.1.2.2.length d2] w2 0
 have uu3:Up w (((w2.setCell ⟨w.heap.size,0,none⟩ (.int .i64 x.1.1)).setCell ⟨w.heap.size,1,none⟩ (.slice D1 x.1.2.1.length d1)).setCell ⟨w.heap.size,2,none⟩ (.slice D2 x.1.2.2.length d2)):=uu2.but bt3 (by omega)
 have ka_3:Bk (((w2.setCell ⟨w.heap.size,0,none⟩ (.int .i64 x.1.1)).setCell ⟨w.heap.size,1,none⟩ (.slice D1 x.1.2.1.length d1)).setCell ⟨w.heap.size,2,none⟩ (.slice D2 x.1.2.2.length d2)) (w.heap.size) 52 #[.int .i64 x.1.1,.slice D1 x.1.2.1.length d1,.slice D2 x.1.2.2.length d2,.int .i64 x.2.1,.int .i64 x.2.2.1,.int .i64 x.2.2.2.1,.int .i64 x.2.2.2.2]:=ka_2.sets [.int .i64 x.1.1,.slice D1 x.1.2.1.length d1,.slice D2 x.1.2.2.length d2] 0
 go_ret
 have s1w:=s1.wide good_S (lo':=w.heap.size+1) (by simp) (Nat.le_refl _)
 have s2w:=s2.wide good_Put (lo':=w.heap.size+1) (by simp) (Nat.le_refl _)
 exact ⟨rfl,D1,d1,bl1,D2,d2,bl2,ka_3,s1w.set good_S w.heap.size 0 [.int .i64 x.1.1,.slice D1 x.1.2.1.length d1,.slice D2 x.1.2.2.length d2] (by omega),s2w.set good_Put w.heap.size 0 [.int .i64 x.1.1,.slice D1 x.1.2.1.length d1,.slice D2 x.1.2.2.length d2] (by omega),nd1,uu3⟩
end Go.Proofs.YthdnicfbnihoaaaGreatDoor
