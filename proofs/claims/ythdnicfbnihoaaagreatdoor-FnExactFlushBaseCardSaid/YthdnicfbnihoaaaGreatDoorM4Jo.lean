/-
 JournalOk: the program's and the reference's compute one function of a journal.
-/
import Derived.Test.YthdnicfbnihoaaaGreatDoorM4K
import Derived.Deep.RegionHeld3
set_option maxHeartbeats 4000000
set_option maxRecDepth 100000
namespace Go.Proofs.YthdnicfbnihoaaaGreatDoor
open Go.RowKit
set_option linter.unusedVariables false
def journalOk (j:TJournal):Bool:=diskOk j.1 && (j.1.1 == 128) && inB j.2.1 1 2000000000 && inB j.2.2.1 1 2000000000 && inB j.2.2.2.1 (j.2.2.1 - 1) 2000000000 && inB j.2.2.2.2 0 j.1.2.1.length
theorem c_implJournalOk (v:Value) (x:TJournal) (w:World) (h:AV shJournal w v x):Calls Tryz.prog 50 #[v] w (BoolP (journalOk x) w):=by
 obtain ⟨cs,rfl,h⟩:=h
 obtain ⟨⟨x0,x1,x2⟩,x3,x4,x5,x6⟩:=x
 have ho:=openJournal h
 dsimp only at ho
 obtain ⟨A1,c1,A2,c2,rfl,b0,b1,b2,b3,b4,b5,b6⟩:=ho
 obtain ⟨b4l,b4h⟩:=b4
 have hl1:=b1.len_le
 have u0:Up w (w.alloc (.cells #[.int .i64 x0,.slice A1 x1.length c1,.slice A2 x2.length c2,.int .i64 x3,.int .i64 x4,.int .i64 x5,.int .i64 x6] 52)):=(Up.refl _).alloc _
 have k0:Bk (w.alloc (.cells #[.int .i64 x0,.slice A1 x1.length c1,.slice A2 x2.length c2,.int .i64 x3,.int .i64 x4,.int .i64 x5,.int .i64 x6] 52)) w.heap.size 52 #[.int .i64 x0,.slice A1 x1.length c1,.slice A2 x2.length c2,.int .i64 x3,.int .i64 x4,.int .i64 x5,.int .i64 x6]:=Bk.new _ _ _
 have g0:∀t:UpT (w.alloc (.cells #[.int .i64 x0,.slice A1 x1.length c1,.slice A2 x2.length c2,.int .i64 x3,.int .i64 x4,.int .i64 x5,.int .i64 x6] 52)),t.val.cell? ⟨w.heap.size,0,none⟩=some (.int .i64 x0):=fun t=>(k0.up t.up).cell 0
 have g1:∀t:UpT (w.alloc (.cells #[.int .i64 x0,.slice A1 x1.length c1,.slice A2 x2.length c2,.int .i64 x3,.int .i64 x4,.int .i64 x5,.int .i64 x6] 52)),t.val.cell? ⟨w.heap.size,1,none⟩=some (.slice A1 x1.length c1):=fun t=>(k0.up t.up).cell 1
 have g2:∀t:UpT (w.alloc (.cells #[.int .i64 x0,.slice A1 x1.length c1,.slice A2 x2.length c2,.int .i64 x3,.int .i64 x4,.int .i64 x5,.int .i64 x6] 52)),t.val.cell? ⟨w.heap.size,2,none⟩=some (.slice A2 x2.length c2):=fun t=>(k0.up t.up).cell 2
 have g3:∀t:UpT (w.alloc (.cells #[.int .i64 x0,.slice A1 x1.length c1,.slice A2 x2.length c2,.int .i64 x3,.int .i64 x4,.int .i64 x5,.int .i64 x6] 52)),t.val.cell? ⟨w.heap.size,3,none⟩=some (.int .i64 x3):=fun t=>(k0.up t.up).cell 3
 have g4:∀t:UpT (w.alloc (.cells #[.int .i64 x0,.slice A1 x1.length c1,.slice A2 x2.length c2,.int .i64 x3,.int .i64 x4,.int .i64 x5,.int .i64 x6] 52)),t.val.cell? ⟨w.heap.size,4,none⟩=some (.int .i64 x4):=fun t=>(k0.up t.up).cell 4
 have g5:∀t:UpT (w.alloc (.cells #[.int .i64 x0,.slice A1 x1.length c1,.slice A2 x2.length c2,.int .i64 x3,.int .i64 x4,.int .i64 x5,.int .i64 x6] 52)),t.val.cell? ⟨w.heap.size,5,none⟩=some (.int .i64 x5):=fun t=>(k0.up t.up).cell 5
 have g6:∀t:UpT (w.alloc (.cells #[.int .i64 x0,.slice A1 x1.length c1,.slice A2 x2.length c2,.int .i64 x3,.int .i64 x4,.int .i64 x5,.int .i64 x6] 52)),t.val.cell? ⟨w.heap.size,6,none⟩=some (.int .i64 x6):=fun t=>(k0.up t.up).cell 6
 cases q0:diskOk (x0,x1,x2)
 · have HD:Hid (journalOk ((x0,x1,x2),x3,x4,x5,x6)=false):=by unfold Hid journalOk;dsimp only;rw [q0];simp
   go_enter Tryz.func50,Tryz.ntmps50
   go_wp2_with fail
   refine wp_region_up (by kernel_rfl) (by kernel_rfl) ?_
   repeat (go_big_quiet_step ((first | (go_at_call 94;exact up_bool (c_implDiskOk _ (x0,x1,x2) _ ⟨_,rfl,mkDisk (x:=(x0,x1,x2)) b0 (b1.up good_S (u0.trans (UpT.up _))) (b2.up good_Put (u0.trans (UpT.up _)))⟩) q0 (UpT.up _)) | (fail) | (go_at_call 104;exact up_same (c_countS _ _ _ _ hl1) (UpT.up _)))))
   refine wpQuiet_nil ?_
   rintro _ ⟨⟨w1,u1⟩,rfl⟩
   go_wp2_with fail
   go_ret
   exact bool_end HD (u0.trans u1)
 cases q1:(x0 == 128)
 · have HD:Hid (journalOk ((x0,x1,x2),x3,x4,x5,x6)=false):=by unfold Hid journalOk;dsimp only;rw [q1];simp
   go_enter Tryz.func50,Tryz.ntmps50
   go_wp2_with fail
   refine wp_region_up (by kernel_rfl) (by kernel_rfl) ?_
   repeat (go_big_quiet_step ((first | (go_at_call 94;exact up_bool (c_implDiskOk _ (x0,x1,x2) _ ⟨_,rfl,mkDisk (x:=(x0,x1,x2)) b0 (b1.up good_S (u0.trans (UpT.up _))) (b2.up good_Put (u0.trans (UpT.up _)))⟩) q0 (UpT.up _)) | (fail) | (go_at_call 104;exact up_same (c_countS _ _ _ _ hl1) (UpT.up _)))))
   refine wpQuiet_nil ?_
   rintro _ ⟨⟨w1,u1⟩,rfl⟩
   go_wp2_with fail
   go_ret
   exact bool_end HD (u0.trans u1)
 cases q2:inB x3 1 2000000000
 · have HD:Hid (journalOk ((x0,x1,x2),x3,x4,x5,x6)=false):=by unfold Hid journalOk;dsimp only;rw [q2];simp
   go_enter Tryz.func50,Tryz.ntmps50
   go_wp2_with fail
   refine wp_region_up (by kernel_rfl) (by kernel_rfl) ?_
   repeat (go_big_quiet_step ((first | (go_at_call 94;exact up_bool (c_implDiskOk _ (x0,x1,x2) _ ⟨_,rfl,mkDisk (x:=(x0,x1,x2)) b0 (b1.up good_S (u0.trans (UpT.up _))) (b2.up good_Put (u0.trans (UpT.up _)))⟩) q0 (UpT.up _)) | (go_at_call 51;exact up_bools (within_any _ _ _ _) q2 (UpT.up _)) | (go_at_call 104;exact up_same (c_countS _ _ _ _ hl1) (UpT.up _)))))
   refine wpQuiet_nil ?_
   rintro _ ⟨⟨w1,u1⟩,rfl⟩
   go_wp2_with fail
   go_ret
   exact bool_end HD (u0.trans u1)
 cases q3:inB x4 1 2000000000
 · have HD:Hid (journalOk ((x0,x1,x2),x3,x4,x5,x6)=false):=by unfold Hid journalOk;dsimp only;rw [q3];simp
   go_enter Tryz.func50,Tryz.ntmps50
   go_wp2_with fail
   refine wp_region_up (by kernel_rfl) (by kernel_rfl) ?_
   repeat (go_big_quiet_step ((first | (go_at_call 94;exact up_bool (c_implDiskOk _ (x0,x1,x2) _ ⟨_,rfl,mkDisk (x:=(x0,x1,x2)) b0 (b1.up good_S (u0.trans (UpT.up _))) (b2.up good_Put (u0.trans (UpT.up _)))⟩) q0 (UpT.up _)) | (go_at_call 51;exact up_bools (within_any _ _ _ _) q2 (UpT.up _)) | (go_at_call 51;exact up_bools (within_any _ _ _ _) q3 (UpT.up _)) | (go_at_call 104;exact up_same (c_countS _ _ _ _ hl1) (UpT.up _)))))
   refine wpQuiet_nil ?_
   rintro _ ⟨⟨w1,u1⟩,rfl⟩
   go_wp2_with fail
   go_ret
   exact bool_end HD (u0.trans u1)
 obtain ⟨b4a,b4b⟩:=inB_t.1 q3
 cases q4:inB x5 (x4 - 1) 2000000000
 · have HD:Hid (journalOk ((x0,x1,x2),x3,x4,x5,x6)=false):=by unfold Hid journalOk;dsimp only;rw [q4];simp
   go_enter Tryz.func50,Tryz.ntmps50
   go_wp2_with fail
   refine wp_region_up (by kernel_rfl) (by kernel_rfl) ?_
   repeat (go_big_quiet_step ((first | (go_at_call 94;exact up_bool (c_implDiskOk _ (x0,x1,x2) _ ⟨_,rfl,mkDisk (x:=(x0,x1,x2)) b0 (b1.up good_S (u0.trans (UpT.up _))) (b2.up good_Put (u0.trans (UpT.up _)))⟩) q0 (UpT.up _)) | (go_at_call 51;exact up_bools (within_any _ _ _ _) q2 (UpT.up _)) | (go_at_call 51;exact up_bools (within_any _ _ _ _) q3 (UpT.up _)) | (go_at_call 51;exact up_bools (within_any _ _ _ _) q4 (UpT.up _)) | (go_at_call 104;exact up_same (c_countS _ _ _ _ hl1) (UpT.up _)))))
   refine wpQuiet_nil ?_
   rintro _ ⟨⟨w1,u1⟩,rfl⟩
   go_wp2_with fail
   go_ret
   exact bool_end HD (u0.trans u1)
 cases q5:inB x6 0 x1.length
 · have HD:Hid (journalOk ((x0,x1,x2),x3,x4,x5,x6)=false):=by unfold Hid journalOk;dsimp only;rw [q5];simp
   go_enter Tryz.func50,Tryz.ntmps50
   go_wp2_with fail
   refine wp_region_up (by kernel_rfl) (by kernel_rfl) ?_
   repeat (go_big_quiet_step ((first | (go_at_call 94;exact up_bool (c_implDiskOk _ (x0,x1,x2) _ ⟨_,rfl,mkDisk (x:=(x0,x1,x2)) b0 (b1.up good_S (u0.trans (UpT.up _))) (b2.up good_Put (u0.trans (UpT.up _)))⟩) q0 (UpT.up _)) | (go_at_call 51;exact up_bools (within_any _ _ _ _) q2 (UpT.up _)) | (go_at_call 51;exact up_bools (within_any _ _ _ _) q3 (UpT.up _)) | (go_at_call 51;exact up_bools (within_any _ _ _ _) q4 (UpT.up _)) | (go_at_call 51;exact up_bools (within_any _ _ _ _) q5 (UpT.up _)) | (go_at_call 104;exact up_same (c_countS _ _ _ _ hl1) (UpT.up _)))))
   refine wpQuiet_nil ?_
   rintro _ ⟨⟨w1,u1⟩,rfl⟩
   go_wp2_with fail
   go_ret
   exact bool_end HD (u0.trans u1)
 have HD:Hid (journalOk ((x0,x1,x2),x3,x4,x5,x6)=true):=by unfold Hid journalOk;dsimp only;rw [q0,q1,q2,q3,q4,q5];rfl
 go_enter Tryz.func50,Tryz.ntmps50
 go_wp2_with fail
 refine wp_region_up (by kernel_rfl) (by kernel_rfl) ?_
 repeat (go_big_quiet_step ((first | (go_at_call 94;exact up_bool (c_implDiskOk _ (x0,x1,x2) _ ⟨_,rfl,mkDisk (x:=(x0,x1,x2)) b0 (b1.up good_S (u0.trans (UpT.up _))) (b2.up good_Put (u0.trans (UpT.up _)))⟩) q0 (UpT.up _)) | (go_at_call 51;exact up_bools (within_any _ _ _ _) q2 (UpT.up _)) | (go_at_call 51;exact up_bools (within_any _ _ _ _) q3 (UpT.up _)) | (go_at_call 51;exact up_bools (within_any _ _ _ _) q4 (UpT.up _)) | (go_at_call 51;exact up_bools (within_any _ _ _ _) q5 (UpT.up _)) | (go_at_call 104;exact up_same (c_countS _ _ _ _ hl1) (UpT.up _)))))
 refine wpQuiet_nil ?_
 rintro _ ⟨⟨w1,u1⟩,rfl⟩
 go_wp2_with fail
 go_ret
 exact bool_end HD (u0.trans u1)
theorem c_specJournalOk (v:Value) (x:TJournal) (w:World) (h:AV shJournal w v x):Calls Tryz.prog 38 #[v] w (BoolP (journalOk x) w):=by
 obtain ⟨cs,rfl,h⟩:=h
 obtain ⟨⟨x0,x1,x2⟩,x3,x4,x5,x6⟩:=x
 have ho:=openJournal h
 dsimp only at ho
 obtain ⟨A1,c1,A2,c2,rfl,b0,b1,b2,b3,b4,b5,b6⟩:=ho
 obtain ⟨b4l,b4h⟩:=b4
 have hl1:=b1.len_le
 have u0:Up w (w.alloc (.cells #[.int .i64 x0,.slice A1 x1.length c1,.slice A2 x2.length c2,.int .i64 x3,.int .i64 x4,.int .i64 x5,.int .i64 x6] 52)):=(Up.refl _).alloc _
 have k0:Bk (w.alloc (.cells #[.int .i64 x0,.slice A1 x1.length c1,.slice A2 x2.length c2,.int .i64 x3,.int .i64 x4,.int .i64 x5,.int .i64 x6] 52)) w.heap.size 52 #[.int .i64 x0,.slice A1 x1.length c1,.slice A2 x2.length c2,.int .i64 x3,.int .i64 x4,.int .i64 x5,.int .i64 x6]:=Bk.new _ _ _
 cases q0:diskOk (x0,x1,x2)
 · have HD:Hid (journalOk ((x0,x1,x2),x3,x4,x5,x6)=false):=by unfold Hid journalOk;dsimp only;rw [q0];simp
   go_enter Tryz.func38,Tryz.ntmps38
   go_wp2_with (first | (go_at_call 77;refine (c_specDiskOk _ (x0,x1,x2) _ ⟨_,rfl,mkDisk (x:=(x0,x1,x2)) b0 (b1.up good_S u0) (b2.up good_Put u0)⟩).mono ?_;rintro e w1 ⟨rfl,u1⟩;have k1:=k0.up u1;have uu1:=u0.trans u1;have g0:w1.cell? ⟨w.heap.size,0,none⟩=some (.int .i64 x0):=k1.cell 0;have g1:w1.cell? ⟨w.heap.size,1,none⟩=some (.slice A1 x1.length c1):=k1.cell 1;have g2:w1.cell? ⟨w.heap.size,2,none⟩=some (.slice A2 x2.length c2):=k1.cell 2;have g3:w1.cell? ⟨w.heap.size,3,none⟩=some (.int .i64 x3):=k1.cell 3;have g4:w1.cell? ⟨w.heap.size,4,none⟩=some (.int .i64 x4):=k1.cell 4;have g5:w1.cell? ⟨w.heap.size,5,none⟩=some (.int .i64 x5):=k1.cell 5;have g6:w1.cell? ⟨w.heap.size,6,none⟩=some (.int .i64 x6):=k1.cell 6) | (go_at_call 39;refine (in_any _ _ _ _).mono ?_;rintro e w' ⟨rfl,rfl⟩))
   go_ret
   exact bool_end HD uu1
 cases q1:(x0 == 128)
 · have HD:Hid (journalOk ((x0,x1,x2),x3,x4,x5,x6)=false):=by unfold Hid journalOk;dsimp only;rw [q1];simp
   go_enter Tryz.func38,Tryz.ntmps38
   go_wp2_with (first | (go_at_call 77;refine (c_specDiskOk _ (x0,x1,x2) _ ⟨_,rfl,mkDisk (x:=(x0,x1,x2)) b0 (b1.up good_S u0) (b2.up good_Put u0)⟩).mono ?_;rintro e w1 ⟨rfl,u1⟩;have k1:=k0.up u1;have uu1:=u0.trans u1;have g0:w1.cell? ⟨w.heap.size,0,none⟩=some (.int .i64 x0):=k1.cell 0;have g1:w1.cell? ⟨w.heap.size,1,none⟩=some (.slice A1 x1.length c1):=k1.cell 1;have g2:w1.cell? ⟨w.heap.size,2,none⟩=some (.slice A2 x2.length c2):=k1.cell 2;have g3:w1.cell? ⟨w.heap.size,3,none⟩=some (.int .i64 x3):=k1.cell 3;have g4:w1.cell? ⟨w.heap.size,4,none⟩=some (.int .i64 x4):=k1.cell 4;have g5:w1.cell? ⟨w.heap.size,5,none⟩=some (.int .i64 x5):=k1.cell 5;have g6:w1.cell? ⟨w.heap.size,6,none⟩=some (.int .i64 x6):=k1.cell 6) | (go_at_call 39;refine (in_any _ _ _ _).mono ?_;rintro e w' ⟨rfl,rfl⟩))
   go_ret
   exact bool_end HD uu1
 cases q2:inB x3 1 2000000000
 · have HD:Hid (journalOk ((x0,x1,x2),x3,x4,x5,x6)=false):=by unfold Hid journalOk;dsimp only;rw [q2];simp
   go_enter Tryz.func38,Tryz.ntmps38
   go_wp2_with (first | (go_at_call 77;refine (c_specDiskOk _ (x0,x1,x2) _ ⟨_,rfl,mkDisk (x:=(x0,x1,x2)) b0 (b1.up good_S u0) (b2.up good_Put u0)⟩).mono ?_;rintro e w1 ⟨rfl,u1⟩;have k1:=k0.up u1;have uu1:=u0.trans u1;have g0:w1.cell? ⟨w.heap.size,0,none⟩=some (.int .i64 x0):=k1.cell 0;have g1:w1.cell? ⟨w.heap.size,1,none⟩=some (.slice A1 x1.length c1):=k1.cell 1;have g2:w1.cell? ⟨w.heap.size,2,none⟩=some (.slice A2 x2.length c2):=k1.cell 2;have g3:w1.cell? ⟨w.heap.size,3,none⟩=some (.int .i64 x3):=k1.cell 3;have g4:w1.cell? ⟨w.heap.size,4,none⟩=some (.int .i64 x4):=k1.cell 4;have g5:w1.cell? ⟨w.heap.size,5,none⟩=some (.int .i64 x5):=k1.cell 5;have g6:w1.cell? ⟨w.heap.size,6,none⟩=some (.int .i64 x6):=k1.cell 6) | (go_at_call 39;refine (in_any _ _ _ _).mono ?_;rintro e w' ⟨rfl,rfl⟩))
   go_ret
   exact bool_end HD uu1
 cases q3:inB x4 1 2000000000
 · have HD:Hid (journalOk ((x0,x1,x2),x3,x4,x5,x6)=false):=by unfold Hid journalOk;dsimp only;rw [q3];simp
   go_enter Tryz.func38,Tryz.ntmps38
   go_wp2_with (first | (go_at_call 77;refine (c_specDiskOk _ (x0,x1,x2) _ ⟨_,rfl,mkDisk (x:=(x0,x1,x2)) b0 (b1.up good_S u0) (b2.up good_Put u0)⟩).mono ?_;rintro e w1 ⟨rfl,u1⟩;have k1:=k0.up u1;have uu1:=u0.trans u1;have g0:w1.cell? ⟨w.heap.size,0,none⟩=some (.int .i64 x0):=k1.cell 0;have g1:w1.cell? ⟨w.heap.size,1,none⟩=some (.slice A1 x1.length c1):=k1.cell 1;have g2:w1.cell? ⟨w.heap.size,2,none⟩=some (.slice A2 x2.length c2):=k1.cell 2;have g3:w1.cell? ⟨w.heap.size,3,none⟩=some (.int .i64 x3):=k1.cell 3;have g4:w1.cell? ⟨w.heap.size,4,none⟩=some (.int .i64 x4):=k1.cell 4;have g5:w1.cell? ⟨w.heap.size,5,none⟩=some (.int .i64 x5):=k1.cell 5;have g6:w1.cell? ⟨w.heap.size,6,none⟩=some (.int .i64 x6):=k1.cell 6) | (go_at_call 39;refine (in_any _ _ _ _).mono ?_;rintro e w' ⟨rfl,rfl⟩))
   go_ret
   exact bool_end HD uu1
 obtain ⟨b4a,b4b⟩:=inB_t.1 q3
 cases q4:inB x5 (x4 - 1) 2000000000
 · have HD:Hid (journalOk ((x0,x1,x2),x3,x4,x5,x6)=false):=by unfold Hid journalOk;dsimp only;rw [q4];simp
   go_enter Tryz.func38,Tryz.ntmps38
   go_wp2_with (first | (go_at_call 77;refine (c_specDiskOk _ (x0,x1,x2) _ ⟨_,rfl,mkDisk (x:=(x0,x1,x2)) b0 (b1.up good_S u0) (b2.up good_Put u0)⟩).mono ?_;rintro e w1 ⟨rfl,u1⟩;have k1:=k0.up u1;have uu1:=u0.trans u1;have g0:w1.cell? ⟨w.heap.size,0,none⟩=some (.int .i64 x0):=k1.cell 0;have g1:w1.cell? ⟨w.heap.size,1,none⟩=some (.slice A1 x1.length c1):=k1.cell 1;have g2:w1.cell? ⟨w.heap.size,2,none⟩=some (.slice A2 x2.length c2):=k1.cell 2;have g3:w1.cell? ⟨w.heap.size,3,none⟩=some (.int .i64 x3):=k1.cell 3;have g4:w1.cell? ⟨w.heap.size,4,none⟩=some (.int .i64 x4):=k1.cell 4;have g5:w1.cell? ⟨w.heap.size,5,none⟩=some (.int .i64 x5):=k1.cell 5;have g6:w1.cell? ⟨w.heap.size,6,none⟩=some (.int .i64 x6):=k1.cell 6) | (go_at_call 39;refine (in_any _ _ _ _).mono ?_;rintro e w' ⟨rfl,rfl⟩))
   go_ret
   exact bool_end HD uu1
 cases q5:inB x6 0 x1.length
 · have HD:Hid (journalOk ((x0,x1,x2),x3,x4,x5,x6)=false):=by unfold Hid journalOk;dsimp only;rw [q5];simp
   go_enter Tryz.func38,Tryz.ntmps38
   go_wp2_with (first | (go_at_call 77;refine (c_specDiskOk _ (x0,x1,x2) _ ⟨_,rfl,mkDisk (x:=(x0,x1,x2)) b0 (b1.up good_S u0) (b2.up good_Put u0)⟩).mono ?_;rintro e w1 ⟨rfl,u1⟩;have k1:=k0.up u1;have uu1:=u0.trans u1;have g0:w1.cell? ⟨w.heap.size,0,none⟩=some (.int .i64 x0):=k1.cell 0;have g1:w1.cell? ⟨w.heap.size,1,none⟩=some (.slice A1 x1.length c1):=k1.cell 1;have g2:w1.cell? ⟨w.heap.size,2,none⟩=some (.slice A2 x2.length c2):=k1.cell 2;have g3:w1.cell? ⟨w.heap.size,3,none⟩=some (.int .i64 x3):=k1.cell 3;have g4:w1.cell? ⟨w.heap.size,4,none⟩=some (.int .i64 x4):=k1.cell 4;have g5:w1.cell? ⟨w.heap.size,5,none⟩=some (.int .i64 x5):=k1.cell 5;have g6:w1.cell? ⟨w.heap.size,6,none⟩=some (.int .i64 x6):=k1.cell 6) | (go_at_call 39;refine (in_any _ _ _ _).mono ?_;rintro e w' ⟨rfl,rfl⟩))
   go_ret
   exact bool_end HD uu1
 have HD:Hid (journalOk ((x0,x1,x2),x3,x4,x5,x6)=true):=by unfold Hid journalOk;dsimp only;rw [q0,q1,q2,q3,q4,q5];rfl
 go_enter Tryz.func38,Tryz.ntmps38
 go_wp2_with (first | (go_at_call 77;refine (c_specDiskOk _ (x0,x1,x2) _ ⟨_,rfl,mkDisk (x:=(x0,x1,x2)) b0 (b1.up good_S u0) (b2.up good_Put u0)⟩).mono ?_;rintro e w1 ⟨rfl,u1⟩;have k1:=k0.up u1;have uu1:=u0.trans u1;have g0:w1.cell? ⟨w.heap.size,0,none⟩=some (.int .i64 x0):=k1.cell 0;have g1:w1.cell? ⟨w.heap.size,1,none⟩=some (.slice A1 x1.length c1):=k1.cell 1;have g2:w1.cell? ⟨w.heap.size,2,none⟩=some (.slice A2 x2.length c2):=k1.cell 2;have g3:w1.cell? ⟨w.heap.size,3,none⟩=some (.int .i64 x3):=k1.cell 3;have g4:w1.cell? ⟨w.heap.size,4,none⟩=some (.int .i64 x4):=k1.cell 4;have g5:w1.cell? ⟨w.heap.size,5,none⟩=some (.int .i64 x5):=k1.cell 5;have g6:w1.cell? ⟨w.heap.size,6,none⟩=some (.int .i64 x6):=k1.cell 6) | (go_at_call 39;refine (in_any _ _ _ _).mono ?_;rintro e w' ⟨rfl,rfl⟩))
 go_ret
 exact bool_end HD uu1
end Go.Proofs.YthdnicfbnihoaaaGreatDoor
