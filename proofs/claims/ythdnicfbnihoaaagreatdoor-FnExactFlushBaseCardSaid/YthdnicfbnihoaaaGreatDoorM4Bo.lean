/-
 BaseOk: the program's and the reference's compute one function of a base.
-/
import Derived.Test.YthdnicfbnihoaaaGreatDoorM4Bg
import Derived.Test.YthdnicfbnihoaaaGreatDoorM4Ck
import Derived.Test.YthdnicfbnihoaaaGreatDoorM4Jo
set_option maxHeartbeats 16000000
set_option maxRecDepth 100000
namespace Go.Proofs.YthdnicfbnihoaaaGreatDoor
open Go.RowKit
set_option linter.unusedVariables false
set_option linter.unusedSimpArgs false
def baseB (x:TBase):Bool:=btreeB x.1 && cacheOk x.2.1 && journalOk x.2.2.1 && inB x.2.2.2.1 x.2.1.2.1.2.2.1 x.2.2.1.2.2.2.1 && (x.2.2.1.2.2.1 == IntKind.i64.wrap (x.2.1.2.1.2.2.1+1)) && inB x.2.2.2.2 0 2 && (zeroT x.2.1.2.2.1 == (x.2.2.2.2 != 2))
theorem base_impl {w:World} {c0 c1 c2 c3 c4 c5 c6 c8 c9 c10 c11 c12 c13 c14 c15 c16 c17 c18 c21:Value} {n7 n19 n20 n22 n23 m:Int} {a b c z:Bool} (hm:IntKind.i64.wrap (n7+1)=m)
   (HB:Hid (∀W,Up w W→Calls Tryz.prog 48 #[.agg #[c0,c1]] W (BoolP a W))) (HC:Hid (∀W,Up w W→Calls Tryz.prog 49 #[.agg #[c2,c3,c4,c5,c6,.int .i64 n7,c8,c9,c10,c11,c12,c13,c14]] W (BoolP b W))) (HJ:Hid (∀W,Up w W→Calls Tryz.prog 50 #[.agg #[c15,c16,c17,c18,.int .i64 n19,.int .i64 n20,c21]] W (BoolP c W))) (HZ:Hid (∀W,Up w W→Calls Tryz.prog 52 #[.agg #[c9,c10,c11,c12]] W (BoolP z W))) :
   Calls Tryz.prog 19 #[.agg #[c0,c1,c2,c3,c4,c5,c6,.int .i64 n7,c8,c9,c10,c11,c12,c13,c14,c15,c16,c17,c18,.int .i64 n19,.int .i64 n20,c21,.int .i64 n22,.int .i64 n23]] w (BoolP (a && b && c && inB n22 n7 n20 && (n19 == m) && inB n23 0 2 && (z == (n23 != 2))) w):=by
 have u0:Up w (w.alloc (.cells #[c0,c1,c2,c3,c4,c5,c6,.int .i64 n7,c8,c9,c10,c11,c12,c13,c14,c15,c16,c17,c18,.int .i64 n19,.int .i64 n20,c21,.int .i64 n22,.int .i64 n23] 54)):=(Up.refl w).alloc _
 have k0:=Bk.new w 54 #[c0,c1,c2,c3,c4,c5,c6,.int .i64 n7,c8,c9,c10,c11,c12,c13,c14,c15,c16,c17,c18,.int .i64 n19,.int .i64 n20,c21,.int .i64 n22,.int .i64 n23]
 have HR:Hid (∀r,(a && b && c && inB n22 n7 n20 && (n19 == m) && inB n23 0 2 && (z == (n23 != 2)))=r→(a && b && c && inB n22 n7 n20 && (n19 == m) && inB n23 0 2 && (z == (n23 != 2)))=r):=Lib.hid (fun r h=>h)
 generalize hRR:(a && b && c && inB n22 n7 n20 && (n19 == m) && inB n23 0 2 && (z == (n23 != 2)))=R
 replace hRR:=Lib.hid hRR
 clear HR
 have g0:∀t:UpT (w.alloc (.cells #[c0,c1,c2,c3,c4,c5,c6,.int .i64 n7,c8,c9,c10,c11,c12,c13,c14,c15,c16,c17,c18,.int .i64 n19,.int .i64 n20,c21,.int .i64 n22,.int .i64 n23] 54)),t.val.cell? ⟨w.heap.size,0,none⟩=some (c0):=fun t=>(k0.up t.up).cell 0
 have g1:∀t:UpT (w.alloc (.cells #[c0,c1,c2,c3,c4,c5,c6,.int .i64 n7,c8,c9,c10,c11,c12,c13,c14,c15,c16,c17,c18,.int .i64 n19,.int .i64 n20,c21,.int .i64 n22,.int .i64 n23] 54)),t.val.cell? ⟨w.heap.size,1,none⟩=some (c1):=fun t=>(k0.up t.up).cell 1
 have g2:∀t:UpT (w.alloc (.cells #[c0,c1,c2,c3,c4,c5,c6,.int .i64 n7,c8,c9,c10,c11,c12,c13,c14,c15,c16,c17,c18,.int .i64 n19,.int .i64 n20,c21,.int .i64 n22,.int .i64 n23] 54)),t.val.cell? ⟨w.heap.size,2,none⟩=some (c2):=fun t=>(k0.up t.up).cell 2
 have g3:∀t:UpT (w.alloc (.cells #[c0,c1,c2,c3,c4,c5,c6,.int .i64 n7,c8,c9,c10,c11,c12,c13,c14,c15,c16,c17,c18,.int .i64 n19,.int .i64 n20,c21,.int .i64 n22,.int .i64 n23] 54)),t.val.cell? ⟨w.heap.size,3,none⟩=some (c3):=fun t=>(k0.up t.up).cell 3
 have g4:∀t:UpT (w.alloc (.cells #[c0,c1,c2,c3,c4,c5,c6,.int .i64 n7,c8,c9,c10,c11,c12,c13,c14,c15,c16,c17,c18,.int .i64 n19,.int .i64 n20,c21,.int .i64 n22,.int .i64 n23] 54)),t.val.cell? ⟨w.heap.size,4,none⟩=some (c4):=fun t=>(k0.up t.up).cell 4
 have g5:∀t:UpT (w.alloc (.cells #[c0,c1,c2,c3,c4,c5,c6,.int .i64 n7,c8,c9,c10,c11,c12,c13,c14,c15,c16,c17,c18,.int .i64 n19,.int .i64 n20,c21,.int .i64 n22,.int .i64 n23] 54)),t.val.cell? ⟨w.heap.size,5,none⟩=some (c5):=fun t=>(k0.up t.up).cell 5
 have g6:∀t:UpT (w.alloc (.cells #[c0,c1,c2,c3,c4,c5,c6,.int .i64 n7,c8,c9,c10,c11,c12,c13,c14,c15,c16,c17,c18,.int .i64 n19,.int .i64 n20,c21,.int .i64 n22,.int .i64 n23] 54)),t.val.cell? ⟨w.heap.size,6,none⟩=some (c6):=fun t=>(k0.up t.up).cell 6
 have g7:∀t:UpT (w.alloc (.cells #[c0,c1,c2,c3,c4,c5,c6,.int .i64 n7,c8,c9,c10,c11,c12,c13,c14,c15,c16,c17,c18,.int .i64 n19,.int .i64 n20,c21,.int .i64 n22,.int .i64 n23] 54)),t.val.cell? ⟨w.heap.size,7,none⟩=some (.int .i64 n7):=fun t=>(k0.up t.up).cell 7
 have g8:∀t:UpT (w.alloc (.cells #[c0,c1,c2,c3,c4,c5,c6,.int .i64 n7,c8,c9,c10,c11,c12,c13,c14,c15,c16,c17,c18,.int .i64 n19,.int .i64 n20,c21,.int .i64 n22,.int .i64 n23] 54)),t.val.cell? ⟨w.heap.size,8,none⟩=some (c8):=fun t=>(k0.up t.up).cell 8
 have g9:∀t:UpT (w.alloc (.cells #[c0,c1,c2,c3,c4,c5,c6,.int .i64 n7,c8,c9,c10,c11,c12,c13,c14,c15,c16,c17,c18,.int .i64 n19,.int .i64 n20,c21,.int .i64 n22,.int .i64 n23] 54)),t.val.cell? ⟨w.heap.size,9,none⟩=some (c9):=fun t=>(k0.up t.up).cell 9
 have g10:∀t:UpT (w.alloc (.cells #[c0,c1,c2,c3,c4,c5,c6,.int .i64 n7,c8,c9,c10,c11,c12,c13,c14,c15,c16,c17,c18,.int .i64 n19,.int .i64 n20,c21,.int .i64 n22,.int .i64 n23] 54)),t.val.cell? ⟨w.heap.size,10,none⟩=some (c10):=fun t=>(k0.up t.up).cell 10
 have g11:∀t:UpT (w.alloc (.cells #[c0,c1,c2,c3,c4,c5,c6,.int .i64 n7,c8,c9,c10,c11,c12,c13,c14,c15,c16,c17,c18,.int .i64 n19,.int .i64 n20,c21,.int .i64 n22,.int .i64 n23] 54)),t.val.cell? ⟨w.heap.size,11,none⟩=some (c11):=fun t=>(k0.up t.up).cell 11
 have g12:∀t:UpT (w.alloc (.cells #[c0,c1,c2,c3,c4,c5,c6,.int .i64 n7,c8,c9,c10,c11,c12,c13,c14,c15,c16,c17,c18,.int .i64 n19,.int .i64 n20,c21,.int .i64 n22,.int .i64 n23] 54)),t.val.cell? ⟨w.heap.size,12,none⟩=some (c12):=fun t=>(k0.up t.up).cell 12
 have g13:∀t:UpT (w.alloc (.cells #[c0,c1,c2,c3,c4,c5,c6,.int .i64 n7,c8,c9,c10,c11,c12,c13,c14,c15,c16,c17,c18,.int .i64 n19,.int .i64 n20,c21,.int .i64 n22,.int .i64 n23] 54)),t.val.cell? ⟨w.heap.size,13,none⟩=some (c13):=fun t=>(k0.up t.up).cell 13
 have g14:∀t:UpT (w.alloc (.cells #[c0,c1,c2,c3,c4,c5,c6,.int .i64 n7,c8,c9,c10,c11,c12,c13,c14,c15,c16,c17,c18,.int .i64 n19,.int .i64 n20,c21,.int .i64 n22,.int .i64 n23] 54)),t.val.cell? ⟨w.heap.size,14,none⟩=some (c14):=fun t=>(k0.up t.up).cell 14
 have g15:∀t:UpT (w.alloc (.cells #[c0,c1,c2,c3,c4,c5,c6,.int .i64 n7,c8,c9,c10,c11,c12,c13,c14,c15,c16,c17,c18,.int .i64 n19,.int .i64 n20,c21,.int .i64 n22,.int .i64 n23] 54)),t.val.cell? ⟨w.heap.size,15,none⟩=some (c15):=fun t=>(k0.up t.up).cell 15
 have g16:∀t:UpT (w.alloc (.cells #[c0,c1,c2,c3,c4,c5,c6,.int .i64 n7,c8,c9,c10,c11,c12,c13,c14,c15,c16,c17,c18,.int .i64 n19,.int .i64 n20,c21,.int .i64 n22,.int .i64 n23] 54)),t.val.cell? ⟨w.heap.size,16,none⟩=some (c16):=fun t=>(k0.up t.up).cell 16
 have g17:∀t:UpT (w.alloc (.cells #[c0,c1,c2,c3,c4,c5,c6,.int .i64 n7,c8,c9,c10,c11,c12,c13,c14,c15,c16,c17,c18,.int .i64 n19,.int .i64 n20,c21,.int .i64 n22,.int .i64 n23] 54)),t.val.cell? ⟨w.heap.size,17,none⟩=some (c17):=fun t=>(k0.up t.up).cell 17
 have g18:∀t:UpT (w.alloc (.cells #[c0,c1,c2,c3,c4,c5,c6,.int .i64 n7,c8,c9,c10,c11,c12,c13,c14,c15,c16,c17,c18,.int .i64 n19,.int .i64 n20,c21,.int .i64 n22,.int .i64 n23] 54)),t.val.cell? ⟨w.heap.size,18,none⟩=some (c18):=fun t=>(k0.up t.up).cell 18
 have g19:∀t:UpT (w.alloc (.cells #[c0,c1,c2,c3,c4,c5,c6,.int .i64 n7,c8,c9,c10,c11,c12,c13,c14,c15,c16,c17,c18,.int .i64 n19,.int .i64 n20,c21,.int .i64 n22,.int .i64 n23] 54)),t.val.cell? ⟨w.heap.size,19,none⟩=some (.int .i64 n19):=fun t=>(k0.up t.up).cell 19
 have g20:∀t:UpT (w.alloc (.cells #[c0,c1,c2,c3,c4,c5,c6,.int .i64 n7,c8,c9,c10,c11,c12,c13,c14,c15,c16,c17,c18,.int .i64 n19,.int .i64 n20,c21,.int .i64 n22,.int .i64 n23] 54)),t.val.cell? ⟨w.heap.size,20,none⟩=some (.int .i64 n20):=fun t=>(k0.up t.up).cell 20
 have g21:∀t:UpT (w.alloc (.cells #[c0,c1,c2,c3,c4,c5,c6,.int .i64 n7,c8,c9,c10,c11,c12,c13,c14,c15,c16,c17,c18,.int .i64 n19,.int .i64 n20,c21,.int .i64 n22,.int .i64 n23] 54)),t.val.cell? ⟨w.heap.size,21,none⟩=some (c21):=fun t=>(k0.up t.up).cell 21
 have g22:∀t:UpT (w.alloc (.cells #[c0,c1,c2,c3,c4,c5,c6,.int .i64 n7,c8,c9,c10,c11,c12,c13,c14,c15,c16,c17,c18,.int .i64 n19,.int .i64 n20,c21,.int .i64 n22,.int .i64 n23] 54)),t.val.cell? ⟨w.heap.size,22,none⟩=some (.int .i64 n22):=fun t=>(k0.up t.up).cell 22
 have g23:∀t:UpT (w.alloc (.cells #[c0,c1,c2,c3,c4,c5,c6,.int .i64 n7,c8,c9,c10,c11,c12,c13,c14,c15,c16,c17,c18,.int .i64 n19,.int .i64 n20,c21,.int .i64 n22,.int .i64 n23] 54)),t.val.cell? ⟨w.heap.size,23,none⟩=some (.int .i64 n23):=fun t=>(k0.up t.up).cell 23
 cases a
 · have HQ:=Lib.hid (show R=false by rw [← hRR.out];simp)
   clear hRR
   go_enter Tryz.func19,Tryz.ntmps19
   go_wp2_with fail
   refine wp_region_up (by kernel_rfl) (by kernel_rfl) ?_
   repeat (go_big_quiet_step ((first | (go_at_call 48;exact up_bool (HB.out _ (u0.trans (UpT.up _))) rfl (UpT.up _)) | (go_at_call 49;exact up_bool (HC.out _ (u0.trans (UpT.up _))) rfl (UpT.up _)) | (go_at_call 50;exact up_bool (HJ.out _ (u0.trans (UpT.up _))) rfl (UpT.up _)) | (go_at_call 52;exact up_bool (HZ.out _ (u0.trans (UpT.up _))) rfl (UpT.up _)) | (go_at_call 51;first | (with_reducible exact up_bools (within_any n22 n7 n20 _) qd (UpT.up _)) | (with_reducible exact up_bools (within_any n23 0 2 _) qf (UpT.up _))))))
   refine wpQuiet_nil ?_
   rintro _ ⟨⟨w9,u9⟩,rfl⟩
   go_wp2_with fail
   refine bodyPost_ret (v:=.bool false) (by simp [results,Tryz.results19,go_sem]) rfl ?_
   exact ⟨by rw [HQ.out],u0.trans u9⟩
 cases b
 · have HQ:=Lib.hid (show R=false by rw [← hRR.out];simp)
   clear hRR
   go_enter Tryz.func19,Tryz.ntmps19
   go_wp2_with fail
   refine wp_region_up (by kernel_rfl) (by kernel_rfl) ?_
   repeat (go_big_quiet_step ((first | (go_at_call 48;exact up_bool (HB.out _ (u0.trans (UpT.up _))) rfl (UpT.up _)) | (go_at_call 49;exact up_bool (HC.out _ (u0.trans (UpT.up _))) rfl (UpT.up _)) | (go_at_call 50;exact up_bool (HJ.out _ (u0.trans (UpT.up _))) rfl (UpT.up _)) | (go_at_call 52;exact up_bool (HZ.out _ (u0.trans (UpT.up _))) rfl (UpT.up _)) | (go_at_call 51;first | (with_reducible exact up_bools (within_any n22 n7 n20 _) qd (UpT.up _)) | (with_reducible exact up_bools (within_any n23 0 2 _) qf (UpT.up _))))))
   refine wpQuiet_nil ?_
   rintro _ ⟨⟨w9,u9⟩,rfl⟩
   go_wp2_with fail
   refine bodyPost_ret (v:=.bool false) (by simp [results,Tryz.results19,go_sem]) rfl ?_
   exact ⟨by rw [HQ.out],u0.trans u9⟩
 cases c
 · have HQ:=Lib.hid (show R=false by rw [← hRR.out];simp)
   clear hRR
   go_enter Tryz.func19,Tryz.ntmps19
   go_wp2_with fail
   refine wp_region_up (by kernel_rfl) (by kernel_rfl) ?_
   repeat (go_big_quiet_step ((first | (go_at_call 48;exact up_bool (HB.out _ (u0.trans (UpT.up _))) rfl (UpT.up _)) | (go_at_call 49;exact up_bool (HC.out _ (u0.trans (UpT.up _))) rfl (UpT.up _)) | (go_at_call 50;exact up_bool (HJ.out _ (u0.trans (UpT.up _))) rfl (UpT.up _)) | (go_at_call 52;exact up_bool (HZ.out _ (u0.trans (UpT.up _))) rfl (UpT.up _)) | (go_at_call 51;first | (with_reducible exact up_bools (within_any n22 n7 n20 _) qd (UpT.up _)) | (with_reducible exact up_bools (within_any n23 0 2 _) qf (UpT.up _))))))
   refine wpQuiet_nil ?_
   rintro _ ⟨⟨w9,u9⟩,rfl⟩
   go_wp2_with fail
   refine bodyPost_ret (v:=.bool false) (by simp [results,Tryz.results19,go_sem]) rfl ?_
   exact ⟨by rw [HQ.out],u0.trans u9⟩
 cases qd:inB n22 n7 n20
 · have HQ:=Lib.hid (show R=false by rw [← hRR.out];rw [qd];simp)
   clear hRR
   go_enter Tryz.func19,Tryz.ntmps19
   go_wp2_with fail
   refine wp_region_up (by kernel_rfl) (by kernel_rfl) ?_
   repeat (go_big_quiet_step ((first | (go_at_call 48;exact up_bool (HB.out _ (u0.trans (UpT.up _))) rfl (UpT.up _)) | (go_at_call 49;exact up_bool (HC.out _ (u0.trans (UpT.up _))) rfl (UpT.up _)) | (go_at_call 50;exact up_bool (HJ.out _ (u0.trans (UpT.up _))) rfl (UpT.up _)) | (go_at_call 52;exact up_bool (HZ.out _ (u0.trans (UpT.up _))) rfl (UpT.up _)) | (go_at_call 51;first | (with_reducible exact up_bools (within_any n22 n7 n20 _) qd (UpT.up _)) | (with_reducible exact up_bools (within_any n23 0 2 _) qf (UpT.up _))))))
   refine wpQuiet_nil ?_
   rintro _ ⟨⟨w9,u9⟩,rfl⟩
   go_wp2_with fail
   refine bodyPost_ret (v:=.bool false) (by simp [results,Tryz.results19,go_sem]) rfl ?_
   exact ⟨by rw [HQ.out],u0.trans u9⟩
 cases qe:n19 == m
 · have HQ:=Lib.hid (show R=false by rw [← hRR.out];rw [qe];simp)
   clear hRR
   go_enter Tryz.func19,Tryz.ntmps19
   go_wp2_with fail
   refine wp_region_up (by kernel_rfl) (by kernel_rfl) ?_
   repeat (go_big_quiet_step ((first | (go_at_call 48;exact up_bool (HB.out _ (u0.trans (UpT.up _))) rfl (UpT.up _)) | (go_at_call 49;exact up_bool (HC.out _ (u0.trans (UpT.up _))) rfl (UpT.up _)) | (go_at_call 50;exact up_bool (HJ.out _ (u0.trans (UpT.up _))) rfl (UpT.up _)) | (go_at_call 52;exact up_bool (HZ.out _ (u0.trans (UpT.up _))) rfl (UpT.up _)) | (go_at_call 51;first | (with_reducible exact up_bools (within_any n22 n7 n20 _) qd (UpT.up _)) | (with_reducible exact up_bools (within_any n23 0 2 _) qf (UpT.up _))))))
   refine wpQuiet_nil ?_
   rintro _ ⟨⟨w9,u9⟩,rfl⟩
   go_wp2_with fail
   refine bodyPost_ret (v:=.bool false) (by simp [results,Tryz.results19,go_sem]) rfl ?_
   exact ⟨by rw [HQ.out],u0.trans u9⟩
 cases qf:inB n23 0 2
 · have HQ:=Lib.hid (show R=false by rw [← hRR.out];rw [qf];simp)
   clear hRR
   go_enter Tryz.func19,Tryz.ntmps19
   go_wp2_with fail
   refine wp_region_up (by kernel_rfl) (by kernel_rfl) ?_
   repeat (go_big_quiet_step ((first | (go_at_call 48;exact up_bool (HB.out _ (u0.trans (UpT.up _))) rfl (UpT.up _)) | (go_at_call 49;exact up_bool (HC.out _ (u0.trans (UpT.up _))) rfl (UpT.up _)) | (go_at_call 50;exact up_bool (HJ.out _ (u0.trans (UpT.up _))) rfl (UpT.up _)) | (go_at_call 52;exact up_bool (HZ.out _ (u0.trans (UpT.up _))) rfl (UpT.up _)) | (go_at_call 51;first | (with_reducible exact up_bools (within_any n22 n7 n20 _) qd (UpT.up _)) | (with_reducible exact up_bools (within_any n23 0 2 _) qf (UpT.up _))))))
   refine wpQuiet_nil ?_
   rintro _ ⟨⟨w9,u9⟩,rfl⟩
   go_wp2_with fail
   refine bodyPost_ret (v:=.bool false) (by simp [results,Tryz.results19,go_sem]) rfl ?_
   exact ⟨by rw [HQ.out],u0.trans u9⟩
 cases z <;> cases qg:(n23 == 2)
 · have qg2:(n23 != 2)=true:=by rw [bne,qg];rfl
   have HQ:=Lib.hid (show R=false by rw [← hRR.out];rw [qd,qe,qf,qg2];rfl)
   clear hRR
   go_enter Tryz.func19,Tryz.ntmps19
   go_wp2_with fail
   refine wp_region_up (by kernel_rfl) (by kernel_rfl) ?_
   repeat (go_big_quiet_step ((first | (go_at_call 48;exact up_bool (HB.out _ (u0.trans (UpT.up _))) rfl (UpT.up _)) | (go_at_call 49;exact up_bool (HC.out _ (u0.trans (UpT.up _))) rfl (UpT.up _)) | (go_at_call 50;exact up_bool (HJ.out _ (u0.trans (UpT.up _))) rfl (UpT.up _)) | (go_at_call 52;exact up_bool (HZ.out _ (u0.trans (UpT.up _))) rfl (UpT.up _)) | (go_at_call 51;first | (with_reducible exact up_bools (within_any n22 n7 n20 _) qd (UpT.up _)) | (with_reducible exact up_bools (within_any n23 0 2 _) qf (UpT.up _))))))
   refine wpQuiet_nil ?_
   rintro _ ⟨⟨w9,u9⟩,rfl⟩
   go_wp2_with fail
   refine bodyPost_ret (v:=.bool false) (by simp [results,Tryz.results19,go_sem]) rfl ?_
   exact ⟨by rw [HQ.out],u0.trans u9⟩
 · have qg2:(n23 != 2)=false:=by rw [bne,qg];rfl
   have HQ:=Lib.hid (show R=true by rw [← hRR.out];rw [qd,qe,qf,qg2];rfl)
   clear hRR
   go_enter Tryz.func19,Tryz.ntmps19
   go_wp2_with fail
   refine wp_region_up (by kernel_rfl) (by kernel_rfl) ?_
   repeat (go_big_quiet_step ((first | (go_at_call 48;exact up_bool (HB.out _ (u0.trans (UpT.up _))) rfl (UpT.up _)) | (go_at_call 49;exact up_bool (HC.out _ (u0.trans (UpT.up _))) rfl (UpT.up _)) | (go_at_call 50;exact up_bool (HJ.out _ (u0.trans (UpT.up _))) rfl (UpT.up _)) | (go_at_call 52;exact up_bool (HZ.out _ (u0.trans (UpT.up _))) rfl (UpT.up _)) | (go_at_call 51;first | (with_reducible exact up_bools (within_any n22 n7 n20 _) qd (UpT.up _)) | (with_reducible exact up_bools (within_any n23 0 2 _) qf (UpT.up _))))))
   refine wpQuiet_nil ?_
   rintro _ ⟨⟨w9,u9⟩,rfl⟩
   go_wp2_with fail
   refine bodyPost_ret (v:=.bool true) (by simp [results,Tryz.results19,go_sem]) rfl ?_
   exact ⟨by rw [HQ.out],u0.trans u9⟩
 · have qg2:(n23 != 2)=true:=by rw [bne,qg];rfl
   have HQ:=Lib.hid (show R=true by rw [← hRR.out];rw [qd,qe,qf,qg2];rfl)
   clear hRR
   go_enter Tryz.func19,Tryz.ntmps19
   go_wp2_with fail
   refine wp_region_up (by kernel_rfl) (by kernel_rfl) ?_
   repeat (go_big_quiet_step ((first | (go_at_call 48;exact up_bool (HB.out _ (u0.trans (UpT.up _))) rfl (UpT.up _)) | (go_at_call 49;exact up_bool (HC.out _ (u0.trans (UpT.up _))) rfl (UpT.up _)) | (go_at_call 50;exact up_bool (HJ.out _ (u0.trans (UpT.up _))) rfl (UpT.up _)) | (go_at_call 52;exact up_bool (HZ.out _ (u0.trans (UpT.up _))) rfl (UpT.up _)) | (go_at_call 51;first | (with_reducible exact up_bools (within_any n22 n7 n20 _) qd (UpT.up _)) | (with_reducible exact up_bools (within_any n23 0 2 _) qf (UpT.up _))))))
   refine wpQuiet_nil ?_
   rintro _ ⟨⟨w9,u9⟩,rfl⟩
   go_wp2_with fail
   refine bodyPost_ret (v:=.bool true) (by simp [results,Tryz.results19,go_sem]) rfl ?_
   exact ⟨by rw [HQ.out],u0.trans u9⟩
 · have qg2:(n23 != 2)=false:=by rw [bne,qg];rfl
   have HQ:=Lib.hid (show R=false by rw [← hRR.out];rw [qd,qe,qf,qg2];rfl)
   clear hRR
   go_enter Tryz.func19,Tryz.ntmps19
   go_wp2_with fail
   refine wp_region_up (by kernel_rfl) (by kernel_rfl) ?_
   repeat (go_big_quiet_step ((first | (go_at_call 48;exact up_bool (HB.out _ (u0.trans (UpT.up _))) rfl (UpT.up _)) | (go_at_call 49;exact up_bool (HC.out _ (u0.trans (UpT.up _))) rfl (UpT.up _)) | (go_at_call 50;exact up_bool (HJ.out _ (u0.trans (UpT.up _))) rfl (UpT.up _)) | (go_at_call 52;exact up_bool (HZ.out _ (u0.trans (UpT.up _))) rfl (UpT.up _)) | (go_at_call 51;first | (with_reducible exact up_bools (within_any n22 n7 n20 _) qd (UpT.up _)) | (with_reducible exact up_bools (within_any n23 0 2 _) qf (UpT.up _))))))
   refine wpQuiet_nil ?_
   rintro _ ⟨⟨w9,u9⟩,rfl⟩
   go_wp2_with fail
   refine bodyPost_ret (v:=.bool false) (by simp [results,Tryz.results19,go_sem]) rfl ?_
   exact ⟨by rw [HQ.out],u0.trans u9⟩
theorem base_spec {w:World} {c0 c1 c2 c3 c4 c5 c6 c8 c9 c10 c11 c12 c13 c14 c15 c16 c17 c18 c21:Value} {n7 n19 n20 n22 n23 m:Int} {a b c z:Bool} (hm:IntKind.i64.wrap (n7+1)=m)
   (HB:Hid (∀W,Up w W→Calls Tryz.prog 36 #[.agg #[c0,c1]] W (BoolP a W))) (HC:Hid (∀W,Up w W→Calls Tryz.prog 37 #[.agg #[c2,c3,c4,c5,c6,.int .i64 n7,c8,c9,c10,c11,c12,c13,c14]] W (BoolP b W))) (HJ:Hid (∀W,Up w W→Calls Tryz.prog 38 #[.agg #[c15,c16,c17,c18,.int .i64 n19,.int .i64 n20,c21]] W (BoolP c W))) (HZ:Hid (∀W,Up w W→Calls Tryz.prog 40 #[.agg #[c9,c10,c11,c12]] W (BoolP z W))) :
   Calls Tryz.prog 14 #[.agg #[c0,c1,c2,c3,c4,c5,c6,.int .i64 n7,c8,c9,c10,c11,c12,c13,c14,c15,c16,c17,c18,.int .i64 n19,.int .i64 n20,c21,.int .i64 n22,.int .i64 n23]] w (BoolP (a && b && c && inB n22 n7 n20 && (n19 == m) && inB n23 0 2 && (z == (n23 != 2))) w):=by
 have u0:Up w (w.alloc (.cells #[c0,c1,c2,c3,c4,c5,c6,.int .i64 n7,c8,c9,c10,c11,c12,c13,c14,c15,c16,c17,c18,.int .i64 n19,.int .i64 n20,c21,.int .i64 n22,.int .i64 n23] 54)):=(Up.refl w).alloc _
 have k0:=Bk.new w 54 #[c0,c1,c2,c3,c4,c5,c6,.int .i64 n7,c8,c9,c10,c11,c12,c13,c14,c15,c16,c17,c18,.int .i64 n19,.int .i64 n20,c21,.int .i64 n22,.int .i64 n23]
 have HR:Hid (∀r,(a && b && c && inB n22 n7 n20 && (n19 == m) && inB n23 0 2 && (z == (n23 != 2)))=r→(a && b && c && inB n22 n7 n20 && (n19 == m) && inB n23 0 2 && (z == (n23 != 2)))=r):=Lib.hid (fun r h=>h)
 generalize hRR:(a && b && c && inB n22 n7 n20 && (n19 == m) && inB n23 0 2 && (z == (n23 != 2)))=R
 replace hRR:=Lib.hid hRR
 clear HR
 have h0_0:(w.alloc (.cells #[c0,c1,c2,c3,c4,c5,c6,.int .i64 n7,c8,c9,c10,c11,c12,c13,c14,c15,c16,c17,c18,.int .i64 n19,.int .i64 n20,c21,.int .i64 n22,.int .i64 n23] 54)).cell? ⟨w.heap.size,0,none⟩=some (c0):=k0.cell 0
 have h0_1:(w.alloc (.cells #[c0,c1,c2,c3,c4,c5,c6,.int .i64 n7,c8,c9,c10,c11,c12,c13,c14,c15,c16,c17,c18,.int .i64 n19,.int .i64 n20,c21,.int .i64 n22,.int .i64 n23] 54)).cell? ⟨w.heap.size,1,none⟩=some (c1):=k0.cell 1
 go_enter Tryz.func14,Tryz.ntmps14
 go_wp2_with fail
 refine (HB.out _ u0).mono ?_
 rintro e w1 ⟨rfl,u1⟩
 have k1:=k0.up u1
 have hw1_2:w1.cell? ⟨w.heap.size,2,none⟩=some (c2):=k1.cell 2
 have hw1_3:w1.cell? ⟨w.heap.size,3,none⟩=some (c3):=k1.cell 3
 have hw1_4:w1.cell? ⟨w.heap.size,4,none⟩=some (c4):=k1.cell 4
 have hw1_5:w1.cell? ⟨w.heap.size,5,none⟩=some (c5):=k1.cell 5
 have hw1_6:w1.cell? ⟨w.heap.size,6,none⟩=some (c6):=k1.cell 6
 have hw1_7:w1.cell? ⟨w.heap.size,7,none⟩=some (.int .i64 n7):=k1.cell 7
 have hw1_8:w1.cell? ⟨w.heap.size,8,none⟩=some (c8):=k1.cell 8
 have hw1_9:w1.cell? ⟨w.heap.size,9,none⟩=some (c9):=k1.cell 9
 have hw1_10:w1.cell? ⟨w.heap.size,10,none⟩=some (c10):=k1.cell 10
 have hw1_11:w1.cell? ⟨w.heap.size,11,none⟩=some (c11):=k1.cell 11
 have hw1_12:w1.cell? ⟨w.heap.size,12,none⟩=some (c12):=k1.cell 12
 have hw1_13:w1.cell? ⟨w.heap.size,13,none⟩=some (c13):=k1.cell 13
 have hw1_14:w1.cell? ⟨w.heap.size,14,none⟩=some (c14):=k1.cell 14
 clear h0_0 h0_1
 cases a
 · have HQ:=Lib.hid (show R=false by rw [← hRR.out];simp)
   clear hRR
   go_wp2_with fail
   refine bodyPost_ret (v:=.bool false) (by simp [results,Tryz.results14,go_sem]) rfl ?_
   exact ⟨by rw [HQ.out],u0.trans u1⟩
 go_wp2_with fail
 refine (HC.out _ (u0.trans u1)).mono ?_
 rintro e w2 ⟨rfl,u2⟩
 have k2:=k1.up u2
 clear hw1_2 hw1_3 hw1_4 hw1_5 hw1_6 hw1_7 hw1_8 hw1_9 hw1_10 hw1_11 hw1_12 hw1_13 hw1_14
 have hw2_15:w2.cell? ⟨w.heap.size,15,none⟩=some (c15):=k2.cell 15
 have hw2_16:w2.cell? ⟨w.heap.size,16,none⟩=some (c16):=k2.cell 16
 have hw2_17:w2.cell? ⟨w.heap.size,17,none⟩=some (c17):=k2.cell 17
 have hw2_18:w2.cell? ⟨w.heap.size,18,none⟩=some (c18):=k2.cell 18
 have hw2_19:w2.cell? ⟨w.heap.size,19,none⟩=some (.int .i64 n19):=k2.cell 19
 have hw2_20:w2.cell? ⟨w.heap.size,20,none⟩=some (.int .i64 n20):=k2.cell 20
 have hw2_21:w2.cell? ⟨w.heap.size,21,none⟩=some (c21):=k2.cell 21
 cases b
 · have HQ:=Lib.hid (show R=false by rw [← hRR.out];simp)
   clear hRR
   go_wp2_with fail
   refine bodyPost_ret (v:=.bool false) (by simp [results,Tryz.results14,go_sem]) rfl ?_
   exact ⟨by rw [HQ.out],(u0.trans u1).trans u2⟩
 go_wp2_with fail
 refine (HJ.out _ ((u0.trans u1).trans u2)).mono ?_
 rintro e w3 ⟨rfl,u3⟩
 have k3:=k2.up u3
 clear hw2_15 hw2_16 hw2_17 hw2_18 hw2_19 hw2_20 hw2_21
 have U3:=((u0.trans u1).trans u2).trans u3
 cases c
 · have HQ:=Lib.hid (show R=false by rw [← hRR.out];simp)
   clear hRR
   go_wp2_with fail
   refine bodyPost_ret (v:=.bool false) (by simp [results,Tryz.results14,go_sem]) rfl ?_
   exact ⟨by rw [HQ.out],U3⟩
 go_wp2_with fail
 clear HB HC HJ u1 u2 k0 k1 k2 u0
 have g7:∀t:UpT w3,t.val.cell? ⟨w.heap.size,7,none⟩=some (.int .i64 n7):=fun t=>(k3.up t.up).cell 7
 have g9:∀t:UpT w3,t.val.cell? ⟨w.heap.size,9,none⟩=some (c9):=fun t=>(k3.up t.up).cell 9
 have g10:∀t:UpT w3,t.val.cell? ⟨w.heap.size,10,none⟩=some (c10):=fun t=>(k3.up t.up).cell 10
 have g11:∀t:UpT w3,t.val.cell? ⟨w.heap.size,11,none⟩=some (c11):=fun t=>(k3.up t.up).cell 11
 have g12:∀t:UpT w3,t.val.cell? ⟨w.heap.size,12,none⟩=some (c12):=fun t=>(k3.up t.up).cell 12
 have g19:∀t:UpT w3,t.val.cell? ⟨w.heap.size,19,none⟩=some (.int .i64 n19):=fun t=>(k3.up t.up).cell 19
 have g20:∀t:UpT w3,t.val.cell? ⟨w.heap.size,20,none⟩=some (.int .i64 n20):=fun t=>(k3.up t.up).cell 20
 have g22:∀t:UpT w3,t.val.cell? ⟨w.heap.size,22,none⟩=some (.int .i64 n22):=fun t=>(k3.up t.up).cell 22
 have g23:∀t:UpT w3,t.val.cell? ⟨w.heap.size,23,none⟩=some (.int .i64 n23):=fun t=>(k3.up t.up).cell 23
 cases qd:inB n22 n7 n20
 · have HQ:=Lib.hid (show R=false by rw [← hRR.out];rw [qd];simp)
   clear hRR
   refine wp_region_up (by kernel_rfl) (by kernel_rfl) ?_
   repeat (go_big_quiet_step ((first | (go_at_call 40;exact up_bool (HZ.out _ (U3.trans (UpT.up _))) rfl (UpT.up _)) | (go_at_call 39;first | (with_reducible exact up_bools (in_any n22 n7 n20 _) qd (UpT.up _)) | (with_reducible exact up_bools (in_any n23 0 2 _) qf (UpT.up _))))))
   refine wpQuiet_nil ?_
   rintro _ ⟨⟨w9,u9⟩,rfl⟩
   go_wp2_with fail
   refine bodyPost_ret (v:=.bool false) (by simp [results,Tryz.results14,go_sem]) rfl ?_
   exact ⟨by rw [HQ.out],U3.trans u9⟩
 cases qe:n19 == m
 · have HQ:=Lib.hid (show R=false by rw [← hRR.out];rw [qe];simp)
   clear hRR
   refine wp_region_up (by kernel_rfl) (by kernel_rfl) ?_
   repeat (go_big_quiet_step ((first | (go_at_call 40;exact up_bool (HZ.out _ (U3.trans (UpT.up _))) rfl (UpT.up _)) | (go_at_call 39;first | (with_reducible exact up_bools (in_any n22 n7 n20 _) qd (UpT.up _)) | (with_reducible exact up_bools (in_any n23 0 2 _) qf (UpT.up _))))))
   refine wpQuiet_nil ?_
   rintro _ ⟨⟨w9,u9⟩,rfl⟩
   go_wp2_with fail
   refine bodyPost_ret (v:=.bool false) (by simp [results,Tryz.results14,go_sem]) rfl ?_
   exact ⟨by rw [HQ.out],U3.trans u9⟩
 cases qf:inB n23 0 2
 · have HQ:=Lib.hid (show R=false by rw [← hRR.out];rw [qf];simp)
   clear hRR
   refine wp_region_up (by kernel_rfl) (by kernel_rfl) ?_
   repeat (go_big_quiet_step ((first | (go_at_call 40;exact up_bool (HZ.out _ (U3.trans (UpT.up _))) rfl (UpT.up _)) | (go_at_call 39;first | (with_reducible exact up_bools (in_any n22 n7 n20 _) qd (UpT.up _)) | (with_reducible exact up_bools (in_any n23 0 2 _) qf (UpT.up _))))))
   refine wpQuiet_nil ?_
   rintro _ ⟨⟨w9,u9⟩,rfl⟩
   go_wp2_with fail
   refine bodyPost_ret (v:=.bool false) (by simp [results,Tryz.results14,go_sem]) rfl ?_
   exact ⟨by rw [HQ.out],U3.trans u9⟩
 cases z <;> cases qg:(n23 == 2)
 · have qg2:(n23 != 2)=true:=by rw [bne,qg];rfl
   have HQ:=Lib.hid (show R=false by rw [← hRR.out];rw [qd,qe,qf,qg2];rfl)
   clear hRR
   refine wp_region_up (by kernel_rfl) (by kernel_rfl) ?_
   repeat (go_big_quiet_step ((first | (go_at_call 40;exact up_bool (HZ.out _ (U3.trans (UpT.up _))) rfl (UpT.up _)) | (go_at_call 39;first | (with_reducible exact up_bools (in_any n22 n7 n20 _) qd (UpT.up _)) | (with_reducible exact up_bools (in_any n23 0 2 _) qf (UpT.up _))))))
   refine wpQuiet_nil ?_
   rintro _ ⟨⟨w9,u9⟩,rfl⟩
   go_wp2_with fail
   refine bodyPost_ret (v:=.bool false) (by simp [results,Tryz.results14,go_sem]) rfl ?_
   exact ⟨by rw [HQ.out],U3.trans u9⟩
 · have qg2:(n23 != 2)=false:=by rw [bne,qg];rfl
   have HQ:=Lib.hid (show R=true by rw [← hRR.out];rw [qd,qe,qf,qg2];rfl)
   clear hRR
   refine wp_region_up (by kernel_rfl) (by kernel_rfl) ?_
   repeat (go_big_quiet_step ((first | (go_at_call 40;exact up_bool (HZ.out _ (U3.trans (UpT.up _))) rfl (UpT.up _)) | (go_at_call 39;first | (with_reducible exact up_bools (in_any n22 n7 n20 _) qd (UpT.up _)) | (with_reducible exact up_bools (in_any n23 0 2 _) qf (UpT.up _))))))
   refine wpQuiet_nil ?_
   rintro _ ⟨⟨w9,u9⟩,rfl⟩
   go_wp2_with fail
   refine bodyPost_ret (v:=.bool true) (by simp [results,Tryz.results14,go_sem]) rfl ?_
   exact ⟨by rw [HQ.out],U3.trans u9⟩
 · have qg2:(n23 != 2)=true:=by rw [bne,qg];rfl
   have HQ:=Lib.hid (show R=true by rw [← hRR.out];rw [qd,qe,qf,qg2];rfl)
   clear hRR
   refine wp_region_up (by kernel_rfl) (by kernel_rfl) ?_
   repeat (go_big_quiet_step ((first | (go_at_call 40;exact up_bool (HZ.out _ (U3.trans (UpT.up _))) rfl (UpT.up _)) | (go_at_call 39;first | (with_reducible exact up_bools (in_any n22 n7 n20 _) qd (UpT.up _)) | (with_reducible exact up_bools (in_any n23 0 2 _) qf (UpT.up _))))))
   refine wpQuiet_nil ?_
   rintro _ ⟨⟨w9,u9⟩,rfl⟩
   go_wp2_with fail
   refine bodyPost_ret (v:=.bool true) (by simp [results,Tryz.results14,go_sem]) rfl ?_
   exact ⟨by rw [HQ.out],U3.trans u9⟩
 · have qg2:(n23 != 2)=false:=by rw [bne,qg];rfl
   have HQ:=Lib.hid (show R=false by rw [← hRR.out];rw [qd,qe,qf,qg2];rfl)
   clear hRR
   refine wp_region_up (by kernel_rfl) (by kernel_rfl) ?_
   repeat (go_big_quiet_step ((first | (go_at_call 40;exact up_bool (HZ.out _ (U3.trans (UpT.up _))) rfl (UpT.up _)) | (go_at_call 39;first | (with_reducible exact up_bools (in_any n22 n7 n20 _) qd (UpT.up _)) | (with_reducible exact up_bools (in_any n23 0 2 _) qf (UpT.up _))))))
   refine wpQuiet_nil ?_
   rintro _ ⟨⟨w9,u9⟩,rfl⟩
   go_wp2_with fail
   refine bodyPost_ret (v:=.bool false) (by simp [results,Tryz.results14,go_sem]) rfl ?_
   exact ⟨by rw [HQ.out],U3.trans u9⟩
theorem ci_BaseOk (v:Value) (x:TBase) (w:World) (h:AV shBase w v x) (hn:shBase.sz x≤1048576) (htab:Tab w) (hm:MaxL w):Calls Tryz.prog 19 #[v] w (RetV (.bool (baseB x)) w):=by
 obtain ⟨cs,rfl,h⟩:=h
 have hs:shBase.sz x=shBtree.sz x.1+(shCache.sz x.2.1+(shJournal.sz x.2.2.1+(0+0))):=rfl
 have h1:shBtree.sz x.1≤1048576:=by omega
 have h2:shCache.sz x.2.1≤1048576:=by omega
 obtain ⟨⟨x0,x1⟩,⟨⟨x2,x3,x4⟩,⟨x5,x6,x7,x8⟩,⟨x9,x10,x11,x12⟩,x13,x14⟩,⟨⟨x15,x16,x17⟩,x18,x19,x20,x21⟩,x22,x23⟩:=x
 dsimp only at h1 h2
 have ho:=openBase h
 try dsimp only at ho
 obtain ⟨A1,c1,A3,c3,A4,c4,A8,c8,A12,c12,A13,c13,A14,c14,A16,c16,A17,c17,rfl,b0,b1,b2,b3,b4,b5,b6,b7,b8,b9,b10,b11,b12,b13,b14,b15,b16,b17,b18,b19,b20,b21,b22,b23⟩:=ho
 refine base_impl rfl (Lib.hid fun W u=>ci_BtreeOk _ (x0,x1) W ⟨_,rfl,mkBtree (x:=(x0,x1)) b0 (b1.up good_Slot u)⟩ h1 (tab_up htab u) (maxL_up hm u)) (Lib.hid fun W u=>c_implCacheOk _ ((x2,x3,x4),(x5,x6,x7,x8),(x9,x10,x11,x12),x13,x14) W ⟨_,rfl,mkCache (x:=((x2,x3,x4),(x5,x6,x7,x8),(x9,x10,x11,x12),x13,x14)) b2 (b3.up good_S u) (b4.up good_Put u) b5 b6 b7 (b8.up good_Seat u) b9 b10 b11 (b12.up good_Seat u) (b13.up good_Seat u) (b14.up good_I u)⟩ h2)
   (Lib.hid fun W u=>c_implJournalOk _ ((x15,x16,x17),x18,x19,x20,x21) W ⟨_,rfl,mkJournal (x:=((x15,x16,x17),x18,x19,x20,x21)) b15 (b16.up good_S u) (b17.up good_Put u) b18 b19 b20 b21⟩) (Lib.hid fun W u=>c_isZeroTop _ (x9,x10,x11,x12) W ⟨_,rfl,mkTop (x:=(x9,x10,x11,x12)) b9 b10 b11 (b12.up good_Seat u)⟩)
theorem cs_BaseOk (v:Value) (x:TBase) (w:World) (h:AV shBase w v x) (hn:shBase.sz x≤1048576):Calls Tryz.prog 14 #[v] w (RetV (.bool (baseB x)) w):=by
 obtain ⟨cs,rfl,h⟩:=h
 have hs:shBase.sz x=shBtree.sz x.1+(shCache.sz x.2.1+(shJournal.sz x.2.2.1+(0+0))):=rfl
 have h1:shBtree.sz x.1≤1048576:=by omega
 have h2:shCache.sz x.2.1≤1048576:=by omega
 obtain ⟨⟨x0,x1⟩,⟨⟨x2,x3,x4⟩,⟨x5,x6,x7,x8⟩,⟨x9,x10,x11,x12⟩,x13,x14⟩,⟨⟨x15,x16,x17⟩,x18,x19,x20,x21⟩,x22,x23⟩:=x
 dsimp only at h1 h2
 have ho:=openBase h
 try dsimp only at ho
 obtain ⟨A1,c1,A3,c3,A4,c4,A8,c8,A12,c12,A13,c13,A14,c14,A16,c16,A17,c17,rfl,b0,b1,b2,b3,b4,b5,b6,b7,b8,b9,b10,b11,b12,b13,b14,b15,b16,b17,b18,b19,b20,b21,b22,b23⟩:=ho
 refine base_spec rfl (Lib.hid fun W u=>cs_BtreeOk _ (x0,x1) W ⟨_,rfl,mkBtree (x:=(x0,x1)) b0 (b1.up good_Slot u)⟩ h1) (Lib.hid fun W u=>c_specCacheOk _ ((x2,x3,x4),(x5,x6,x7,x8),(x9,x10,x11,x12),x13,x14) W ⟨_,rfl,mkCache (x:=((x2,x3,x4),(x5,x6,x7,x8),(x9,x10,x11,x12),x13,x14)) b2 (b3.up good_S u) (b4.up good_Put u) b5 b6 b7 (b8.up good_Seat u) b9 b10 b11 (b12.up good_Seat u) (b13.up good_Seat u) (b14.up good_I u)⟩ h2)
   (Lib.hid fun W u=>c_specJournalOk _ ((x15,x16,x17),x18,x19,x20,x21) W ⟨_,rfl,mkJournal (x:=((x15,x16,x17),x18,x19,x20,x21)) b15 (b16.up good_S u) (b17.up good_Put u) b18 b19 b20 b21⟩) (Lib.hid fun W u=>c_l18Zero _ (x9,x10,x11,x12) W ⟨_,rfl,mkTop (x:=(x9,x10,x11,x12)) b9 b10 b11 (b12.up good_Seat u)⟩)
end Go.Proofs.YthdnicfbnihoaaaGreatDoor
