/-
 FlushBase: both sides.
-/
import Derived.Test.YthdnicfbnihoaaaGreatDoorM4Od
set_option maxHeartbeats 16000000
set_option maxRecDepth 100000
namespace Go.Proofs.YthdnicfbnihoaaaGreatDoor
open Go.RowKit
set_option linter.unusedVariables false
set_option linter.unusedSimpArgs false
theorem c_Bflush {w:World} {g lo:Nat} {T0 T1 K0 K1 K2 K3 K4 K5 K6 K7 K8 K9 K10 K11 K12:Value} {x:TBase} {D1 D2:Option Addr} {d1 d2:Nat} {bl1 bl2:List Nat} (hB:Bk w g 54 #[T0,T1,K0,K1,K2,K3,K4,K5,K6,K7,K8,K9,K10,K11,K12,.int .i64 x.2.2.1.1.1,.slice D1 x.2.2.1.1.2.1.length d1,.slice D2 x.2.2.1.1.2.2.length d2,.int .i64 x.2.2.1.2.1,.int .i64 x.2.2.1.2.2.1,.int .i64 x.2.2.1.2.2.2.1,.int .i64 x.2.2.1.2.2.2.2,.int .i64 x.2.2.2.1,.int .i64 x.2.2.2.2]) (h1:SO shS w lo w.heap.size D1 d1 x.2.2.1.1.2.1 bl1) (h2:SO shPut w lo w.heap.size D2 d2 x.2.2.1.1.2.2 bl2) (nd:(bl1++bl2).Nodup) (hBn:g ∉ bl1) (hp:∀p∈x.2.2.1.1.2.2,0≤p.1∧p.1<x.2.2.1.1.2.1.length) :
   Calls Tryz.prog 21 #[.pointer (some ⟨g,0,none⟩)] w (fun e w'=>e=.returned (.tuple #[])∧Bk w' g 54 #[T0,T1,K0,K1,K2,K3,K4,K5,K6,K7,K8,K9,K10,K11,K12,.int .i64 x.2.2.1.1.1,.slice D1 x.2.2.1.1.2.1.length d1,.slice none 0 0,.int .i64 x.2.2.1.2.1,.int .i64 x.2.2.1.2.2.1,.int .i64 x.2.2.1.2.2.2.1,.int .i64 x.2.2.1.2.2.2.2,.int .i64 x.2.2.1.2.2.2.1,.int .i64 x.2.2.2.2]∧SO shS w' lo w'.heap.size D1 d1 (flushS x.2.2.1.1.2.1 x.2.2.1.1.2.2) bl1∧Only (g::bl1) w w'):=by
 have CF:=Lib.hid (c_flush g 15 lo 54 #[T0,T1,K0,K1,K2,K3,K4,K5,K6,K7,K8,K9,K10,K11,K12,.int .i64 x.2.2.1.1.1,.slice D1 x.2.2.1.1.2.1.length d1,.slice D2 x.2.2.1.1.2.2.length d2,.int .i64 x.2.2.1.2.1,.int .i64 x.2.2.1.2.2.1,.int .i64 x.2.2.1.2.2.2.1,.int .i64 x.2.2.1.2.2.2.2,.int .i64 x.2.2.2.1,.int .i64 x.2.2.2.2] x.2.2.1.1.2.1 x.2.2.1.1.2.2 D1 D2 d1 d2 bl1 bl2 w hB rfl rfl h1 h2 nd hBn hp)
 clear h1 h2 nd hp
 go_enter Tryz.func21,Tryz.ntmps21
 go_wp2_with fail
 refine CF.out.mono ?_
 rintro e w1 ⟨rfl,k1,s1,on1⟩
 have k2:Bk w1 g 54 #[T0,T1,K0,K1,K2,K3,K4,K5,K6,K7,K8,K9,K10,K11,K12,.int .i64 x.2.2.1.1.1,.slice D1 x.2.2.1.1.2.1.length d1,.slice none 0 0,.int .i64 x.2.2.1.2.1,.int .i64 x.2.2.1.2.2.1,.int .i64 x.2.2.1.2.2.2.1,.int .i64 x.2.2.1.2.2.2.2,.int .i64 x.2.2.2.1,.int .i64 x.2.2.2.2]:=by simpa using k1
 have g20:w1.cell? ⟨g,20,none⟩=some (.int .i64 x.2.2.1.2.2.2.1):=k2.cell 20
 have g22:w1.cell? ⟨g,22,none⟩=some (.int .i64 x.2.2.2.1):=k2.cell 22
 have f22:=k2.frozen 22
 clear k1 CF hB
 go_wp2_with fail
 refine bodyPost_end (v:=.tuple #[]) (by simp [results,Tryz.results21,go_sem]) (by rfl) ?_
 have bt:=But.set w1 g 22 (.int .i64 x.2.2.1.2.2.2.1)
 refine ⟨rfl,by simpa using k2.set 22 (.int .i64 x.2.2.1.2.2.2.1),?_,on1.but bt (List.mem_cons_self ..)⟩
 rw [bt.size]
 exact s1.keep good_S (fun y hy=>bt.block y (fun e=>hBn (e ▸ hy)))
theorem flush_base_spec {x:TBase} {w:World} {t0 t1 k0 k1 k2 k3 k4 k5 k6 k7 k8 k9 k10 k11 k12 j0 j1 j2 j3 j4 j5 j6:Value} (HB:Hid (∀W,Up w W→Calls Tryz.prog 14 #[.agg #[t0,t1,k0,k1,k2,k3,k4,k5,k6,k7,k8,k9,k10,k11,k12,j0,j1,j2,j3,j4,j5,j6,.int .i64 x.2.2.2.1,.int .i64 x.2.2.2.2]] W (RetV (.bool (baseB x)) W)))
   (HF:Hid (∀W,Up w W→(∀p∈x.2.2.1.1.2.2,0≤p.1∧p.1<x.2.2.1.1.2.1.length)→Calls Tryz.prog 15 #[.agg #[t0,t1,k0,k1,k2,k3,k4,k5,k6,k7,k8,k9,k10,k11,k12,j0,j1,j2,j3,j4,j5,j6,.int .i64 x.2.2.2.1,.int .i64 x.2.2.2.2]] W (ToV shBase (x.1,x.2.1,((x.2.2.1.1.1,flushS x.2.2.1.1.2.1 x.2.2.1.1.2.2,[]),x.2.2.1.2),x.2.2.1.2.2.2.1,x.2.2.2.2) W))) :
   Calls Tryz.prog 5 #[.agg #[t0,t1,k0,k1,k2,k3,k4,k5,k6,k7,k8,k9,k10,k11,k12,j0,j1,j2,j3,j4,j5,j6,.int .i64 x.2.2.2.1,.int .i64 x.2.2.2.2]] w (ToV shBase (baseFlush x) w):=by
 have u0:Up w ((w.alloc (.cells #[t0,t1,k0,k1,k2,k3,k4,k5,k6,k7,k8,k9,k10,k11,k12,j0,j1,j2,j3,j4,j5,j6,.int .i64 x.2.2.2.1,.int .i64 x.2.2.2.2] 54)).alloc (.cells #[.int .i64 0,.slice none 0 0,.int .i64 0,.slice none 0 0,.slice none 0 0,.int .i64 0,.int .i64 0,.int .i64 0,.slice none 0 0,.int .i64 0,.int .i64 0,.int .i64 0,.slice none 0 0,.slice none 0 0,.slice none 0 0,.int .i64 0,.slice none 0 0,.slice none 0 0,.int .i64 0,.int .i64 0,.int .i64 0,.int .i64 0,.int .i64 0,.int .i64 0] 54)):=((Up.refl w).alloc _).alloc _
 have kB:Bk ((w.alloc (.cells #[t0,t1,k0,k1,k2,k3,k4,k5,k6,k7,k8,k9,k10,k11,k12,j0,j1,j2,j3,j4,j5,j6,.int .i64 x.2.2.2.1,.int .i64 x.2.2.2.2] 54)).alloc (.cells #[.int .i64 0,.slice none 0 0,.int .i64 0,.slice none 0 0,.slice none 0 0,.int .i64 0,.int .i64 0,.int .i64 0,.slice none 0 0,.int .i64 0,.int .i64 0,.int .i64 0,.slice none 0 0,.slice none 0 0,.slice none 0 0,.int .i64 0,.slice none 0 0,.slice none 0 0,.int .i64 0,.int .i64 0,.int .i64 0,.int .i64 0,.int .i64 0,.int .i64 0] 54)) w.heap.size 54 #[t0,t1,k0,k1,k2,k3,k4,k5,k6,k7,k8,k9,k10,k11,k12,j0,j1,j2,j3,j4,j5,j6,.int .i64 x.2.2.2.1,.int .i64 x.2.2.2.2]:=(Bk.new w _ _).alloc _
 have kR:Bk ((w.alloc (.cells #[t0,t1,k0,k1,k2,k3,k4,k5,k6,k7,k8,k9,k10,k11,k12,j0,j1,j2,j3,j4,j5,j6,.int .i64 x.2.2.2.1,.int .i64 x.2.2.2.2] 54)).alloc (.cells #[.int .i64 0,.slice none 0 0,.int .i64 0,.slice none 0 0,.slice none 0 0,.int .i64 0,.int .i64 0,.int .i64 0,.slice none 0 0,.int .i64 0,.int .i64 0,.int .i64 0,.slice none 0 0,.slice none 0 0,.slice none 0 0,.int .i64 0,.slice none 0 0,.slice none 0 0,.int .i64 0,.int .i64 0,.int .i64 0,.int .i64 0,.int .i64 0,.int .i64 0] 54)) (w.heap.size+1) 54 #[.int .i64 0,.slice none 0 0,.int .i64 0,.slice none 0 0,.slice none 0 0,.int .i64 0,.int .i64 0,.int .i64 0,.slice none 0 0,.int .i64 0,.int .i64 0,.int .i64 0,.slice none 0 0,.slice none 0 0,.slice none 0 0,.int .i64 0,.slice none 0 0,.slice none 0 0,.int .i64 0,.int .i64 0,.int .i64 0,.int .i64 0,.int .i64 0,.int .i64 0]:=by simpa using Bk.new (w.alloc (.cells #[t0,t1,k0,k1,k2,k3,k4,k5,k6,k7,k8,k9,k10,k11,k12,j0,j1,j2,j3,j4,j5,j6,.int .i64 x.2.2.2.1,.int .i64 x.2.2.2.2] 54)) 54 #[.int .i64 0,.slice none 0 0,.int .i64 0,.slice none 0 0,.slice none 0 0,.int .i64 0,.int .i64 0,.int .i64 0,.slice none 0 0,.int .i64 0,.int .i64 0,.int .i64 0,.slice none 0 0,.slice none 0 0,.slice none 0 0,.int .i64 0,.slice none 0 0,.slice none 0 0,.int .i64 0,.int .i64 0,.int .i64 0,.int .i64 0,.int .i64 0,.int .i64 0]
 have zz:((w.alloc (.cells #[t0,t1,k0,k1,k2,k3,k4,k5,k6,k7,k8,k9,k10,k11,k12,j0,j1,j2,j3,j4,j5,j6,.int .i64 x.2.2.2.1,.int .i64 x.2.2.2.2] 54)).alloc (.cells #[.int .i64 0,.slice none 0 0,.int .i64 0,.slice none 0 0,.slice none 0 0,.int .i64 0,.int .i64 0,.int .i64 0,.slice none 0 0,.int .i64 0,.int .i64 0,.int .i64 0,.slice none 0 0,.slice none 0 0,.slice none 0 0,.int .i64 0,.slice none 0 0,.slice none 0 0,.int .i64 0,.int .i64 0,.int .i64 0,.int .i64 0,.int .i64 0,.int .i64 0] 54)).heap.size=w.heap.size+2:=by simp
 go_enter Tryz.func5,Tryz.ntmps5
 go_upto_region 1 with fail
 generalize hW0:((w.alloc (.cells #[t0,t1,k0,k1,k2,k3,k4,k5,k6,k7,k8,k9,k10,k11,k12,j0,j1,j2,j3,j4,j5,j6,.int .i64 x.2.2.2.1,.int .i64 x.2.2.2.2] 54)).alloc (.cells #[.int .i64 0,.slice none 0 0,.int .i64 0,.slice none 0 0,.slice none 0 0,.int .i64 0,.int .i64 0,.int .i64 0,.slice none 0 0,.int .i64 0,.int .i64 0,.int .i64 0,.slice none 0 0,.slice none 0 0,.slice none 0 0,.int .i64 0,.slice none 0 0,.slice none 0 0,.int .i64 0,.int .i64 0,.int .i64 0,.int .i64 0,.int .i64 0,.int .i64 0] 54))=W0 at u0 kB kR zz ⊢
 clear hW0
 go_wp2_with (refine wpList_load_bk [t0,t1,k0,k1,k2,k3,k4,k5,k6,k7,k8,k9,k10,k11,k12,j0,j1,j2,j3,j4,j5,j6,.int .i64 x.2.2.2.1,.int .i64 x.2.2.2.2] kB rfl Tryz.underlying54 rfl (by kernel_rfl) (by rfl) ?_)
 refine (HB.out _ u0).mono ?_
 rintro e w1 ⟨rfl,u1⟩
 have kB1:=kB.up u1
 have kR1:=kR.up u1
 have uu1:=u0.trans u1
 have z1:=u1.size
 cases hok:baseB x with
 | false =>
   have HZ:Hid (baseFlush x=zeroBaseO):=Lib.hid (by simp [baseFlush,hok])
   clear hok
   go_wp2_with (first | (refine wpList_store_bk [.int .i64 0,.slice none 0 0,.int .i64 0,.slice none 0 0,.slice none 0 0,.int .i64 0,.int .i64 0,.int .i64 0,.slice none 0 0,.int .i64 0,.int .i64 0,.int .i64 0,.slice none 0 0,.slice none 0 0,.slice none 0 0,.int .i64 0,.slice none 0 0,.slice none 0 0,.int .i64 0,.int .i64 0,.int .i64 0,.int .i64 0,.int .i64 0,.int .i64 0] kR1 rfl rfl (by kernel_rfl) rfl (by exact Nat.le_of_ble_eq_true rfl) ?_;intro WE btE kE;rw [putL_allO _ [.int .i64 0,.slice none 0 0,.int .i64 0,.slice none 0 0,.slice none 0 0,.int .i64 0,.int .i64 0,.int .i64 0,.slice none 0 0,.int .i64 0,.int .i64 0,.int .i64 0,.slice none 0 0,.slice none 0 0,.slice none 0 0,.int .i64 0,.slice none 0 0,.slice none 0 0,.int .i64 0,.int .i64 0,.int .i64 0,.int .i64 0,.int .i64 0,.int .i64 0] (by rfl)] at kE))
   refine bodyPost_ret (results_bk kE _ _ Tryz.results5 rfl Tryz.underlying54 rfl (by kernel_rfl)) rfl ?_
   rw [HZ.out]
   exact ⟨[.int .i64 0,.slice none 0 0,.int .i64 0,.slice none 0 0,.slice none 0 0,.int .i64 0,.int .i64 0,.int .i64 0,.slice none 0 0,.int .i64 0,.int .i64 0,.int .i64 0,.slice none 0 0,.slice none 0 0,.slice none 0 0,.int .i64 0,.slice none 0 0,.slice none 0 0,.int .i64 0,.int .i64 0,.int .i64 0,.int .i64 0,.int .i64 0,.int .i64 0],[],rfl,own_zeroBaseO _ _ _,List.nodup_nil,uu1.but btE (by omega)⟩
 | true =>
   have HZ:Hid (baseFlush x=(x.1,x.2.1,((x.2.2.1.1.1,flushS x.2.2.1.1.2.1 x.2.2.1.1.2.2,[]),x.2.2.1.2),x.2.2.1.2.2.2.1,x.2.2.2.2)):=Lib.hid (by simp [baseFlush,hok])
   have hp:=base_puts hok
   clear hok
   have CF:=Lib.hid (HF.out _ uu1 hp)
   clear hp
   generalize (x.1,x.2.1,((x.2.2.1.1.1,flushS x.2.2.1.1.2.1 x.2.2.1.1.2.2,[]),x.2.2.1.2),x.2.2.1.2.2.2.1,x.2.2.2.2)=R at CF HZ
   go_wp2_with (first | (refine wpList_load_bk [t0,t1,k0,k1,k2,k3,k4,k5,k6,k7,k8,k9,k10,k11,k12,j0,j1,j2,j3,j4,j5,j6,.int .i64 x.2.2.2.1,.int .i64 x.2.2.2.2] kB1 rfl Tryz.underlying54 rfl (by kernel_rfl) (by rfl) ?_))
   refine CF.out.mono ?_
   rintro e w2 ⟨csb,blb,rfl,ob,ndb,u2⟩
   have lb:csb.length=24:=good_Base.len (good_Base.own_rep ob)
   have oneb:=good_Base.one (good_Base.own_rep ob)
   have kR2:=kR1.up u2
   have z2:=u2.size
   go_wp2_with (first | (refine wpList_store_bk csb kR2 rfl rfl (by rw [lb];kernel_rfl) (by rw [List.all_eq_true];exact oneb) (by rw [lb];exact Nat.le_of_ble_eq_true rfl) ?_;intro WE btE kE;rw [putL_allO _ csb (by rw [lb];rfl)] at kE))
   refine bodyPost_ret (results_bk kE _ _ Tryz.results5 rfl Tryz.underlying54 rfl (by rw [List.size_toArray,lb];kernel_rfl)) rfl ?_
   rw [HZ.out]
   have ob2:=good_Base.own_keep ob (fun y hy=>btE.block y (by have:=(good_Base.own_in ob y hy).1;omega))
   exact ⟨csb,blb,rfl,good_Base.own_wide ob2 (by omega) (by rw [btE.size];exact Nat.le_refl _),ndb,(uu1.trans u2).but btE (by omega)⟩
theorem flush_base_impl {x : TBase} {w : World} {t0 t1 k0 k1 k2 k3 k4 k5 k6 k7 k8 k9 k10 k11 k12 j0 j1 j2 j3 j4 j5 j6:Value} (HB:Hid (∀W,Up w W→Calls Tryz.prog 19 #[.agg #[t0,t1,k0,k1,k2,k3,k4,k5,k6,k7,k8,k9,k10,k11,k12,j0,j1,j2,j3,j4,j5,j6,.int .i64 x.2.2.2.1,.int .i64 x.2.2.2.2]] W (RetV (.bool (baseB x)) W)))
   (HC:Hid (∀W,Up w W→Calls Tryz.prog 20 #[.agg #[t0,t1,k0,k1,k2,k3,k4,k5,k6,k7,k8,k9,k10,k11,k12,j0,j1,j2,j3,j4,j5,j6,.int .i64 x.2.2.2.1,.int .i64 x.2.2.2.2]] W (ToPtr shBase 54 x W))) :
   Calls Tryz.prog 7 #[.agg #[t0,t1,k0,k1,k2,k3,k4,k5,k6,k7,k8,k9,k10,k11,k12,j0,j1,j2,j3,j4,j5,j6,.int .i64 x.2.2.2.1,.int .i64 x.2.2.2.2]] w (ToV shBase (baseFlush x) w):=by
 have u0:Up w ((w.alloc (.cells #[t0,t1,k0,k1,k2,k3,k4,k5,k6,k7,k8,k9,k10,k11,k12,j0,j1,j2,j3,j4,j5,j6,.int .i64 x.2.2.2.1,.int .i64 x.2.2.2.2] 54)).alloc (.cells #[.int .i64 0,.slice none 0 0,.int .i64 0,.slice none 0 0,.slice none 0 0,.int .i64 0,.int .i64 0,.int .i64 0,.slice none 0 0,.int .i64 0,.int .i64 0,.int .i64 0,.slice none 0 0,.slice none 0 0,.slice none 0 0,.int .i64 0,.slice none 0 0,.slice none 0 0,.int .i64 0,.int .i64 0,.int .i64 0,.int .i64 0,.int .i64 0,.int .i64 0] 54)):=((Up.refl w).alloc _).alloc _
 have kB:Bk ((w.alloc (.cells #[t0,t1,k0,k1,k2,k3,k4,k5,k6,k7,k8,k9,k10,k11,k12,j0,j1,j2,j3,j4,j5,j6,.int .i64 x.2.2.2.1,.int .i64 x.2.2.2.2] 54)).alloc (.cells #[.int .i64 0,.slice none 0 0,.int .i64 0,.slice none 0 0,.slice none 0 0,.int .i64 0,.int .i64 0,.int .i64 0,.slice none 0 0,.int .i64 0,.int .i64 0,.int .i64 0,.slice none 0 0,.slice none 0 0,.slice none 0 0,.int .i64 0,.slice none 0 0,.slice none 0 0,.int .i64 0,.int .i64 0,.int .i64 0,.int .i64 0,.int .i64 0,.int .i64 0] 54)) w.heap.size 54 #[t0,t1,k0,k1,k2,k3,k4,k5,k6,k7,k8,k9,k10,k11,k12,j0,j1,j2,j3,j4,j5,j6,.int .i64 x.2.2.2.1,.int .i64 x.2.2.2.2]:=(Bk.new w _ _).alloc _
 have kR:Bk ((w.alloc (.cells #[t0,t1,k0,k1,k2,k3,k4,k5,k6,k7,k8,k9,k10,k11,k12,j0,j1,j2,j3,j4,j5,j6,.int .i64 x.2.2.2.1,.int .i64 x.2.2.2.2] 54)).alloc (.cells #[.int .i64 0,.slice none 0 0,.int .i64 0,.slice none 0 0,.slice none 0 0,.int .i64 0,.int .i64 0,.int .i64 0,.slice none 0 0,.int .i64 0,.int .i64 0,.int .i64 0,.slice none 0 0,.slice none 0 0,.slice none 0 0,.int .i64 0,.slice none 0 0,.slice none 0 0,.int .i64 0,.int .i64 0,.int .i64 0,.int .i64 0,.int .i64 0,.int .i64 0] 54)) (w.heap.size+1) 54 #[.int .i64 0,.slice none 0 0,.int .i64 0,.slice none 0 0,.slice none 0 0,.int .i64 0,.int .i64 0,.int .i64 0,.slice none 0 0,.int .i64 0,.int .i64 0,.int .i64 0,.slice none 0 0,.slice none 0 0,.slice none 0 0,.int .i64 0,.slice none 0 0,.slice none 0 0,.int .i64 0,.int .i64 0,.int .i64 0,.int .i64 0,.int .i64 0,.int .i64 0]:=by simpa using Bk.new (w.alloc (.cells #[t0,t1,k0,k1,k2,k3,k4,k5,k6,k7,k8,k9,k10,k11,k12,j0,j1,j2,j3,j4,j5,j6,.int .i64 x.2.2.2.1,.int .i64 x.2.2.2.2] 54)) 54 #[.int .i64 0,.slice none 0 0,.int .i64 0,.slice none 0 0,.slice none 0 0,.int .i64 0,.int .i64 0,.int .i64 0,.slice none 0 0,.int .i64 0,.int .i64 0,.int .i64 0,.slice none 0 0,.slice none 0 0,.slice none 0 0,.int .i64 0,.slice none 0 0,.slice none 0 0,.int .i64 0,.int .i64 0,.int .i64 0,.int .i64 0,.int .i64 0,.int .i64 0]
 have zz:((w.alloc (.cells #[t0,t1,k0,k1,k2,k3,k4,k5,k6,k7,k8,k9,k10,k11,k12,j0,j1,j2,j3,j4,j5,j6,.int .i64 x.2.2.2.1,.int .i64 x.2.2.2.2] 54)).alloc (.cells #[.int .i64 0,.slice none 0 0,.int .i64 0,.slice none 0 0,.slice none 0 0,.int .i64 0,.int .i64 0,.int .i64 0,.slice none 0 0,.int .i64 0,.int .i64 0,.int .i64 0,.slice none 0 0,.slice none 0 0,.slice none 0 0,.int .i64 0,.slice none 0 0,.slice none 0 0,.int .i64 0,.int .i64 0,.int .i64 0,.int .i64 0,.int .i64 0,.int .i64 0] 54)).heap.size=w.heap.size+2:=by simp
 go_enter Tryz.func7,Tryz.ntmps7
 go_upto_region 1 with fail
 generalize hW0:((w.alloc (.cells #[t0,t1,k0,k1,k2,k3,k4,k5,k6,k7,k8,k9,k10,k11,k12,j0,j1,j2,j3,j4,j5,j6,.int .i64 x.2.2.2.1,.int .i64 x.2.2.2.2] 54)).alloc (.cells #[.int .i64 0,.slice none 0 0,.int .i64 0,.slice none 0 0,.slice none 0 0,.int .i64 0,.int .i64 0,.int .i64 0,.slice none 0 0,.int .i64 0,.int .i64 0,.int .i64 0,.slice none 0 0,.slice none 0 0,.slice none 0 0,.int .i64 0,.slice none 0 0,.slice none 0 0,.int .i64 0,.int .i64 0,.int .i64 0,.int .i64 0,.int .i64 0,.int .i64 0] 54))=W0 at u0 kB kR zz ⊢
 clear hW0
 go_wp2_with (refine wpList_load_bk [t0,t1,k0,k1,k2,k3,k4,k5,k6,k7,k8,k9,k10,k11,k12,j0,j1,j2,j3,j4,j5,j6,.int .i64 x.2.2.2.1,.int .i64 x.2.2.2.2] kB rfl Tryz.underlying54 rfl (by kernel_rfl) (by rfl) ?_)
 refine (HB.out _ u0).mono ?_
 rintro e w1 ⟨rfl,u1⟩
 have kB1:=kB.up u1
 have kR1:=kR.up u1
 have uu1:=u0.trans u1
 have z1:=u1.size
 cases hok:baseB x with
 | false =>
   have HZ:Hid (baseFlush x=zeroBaseO):=Lib.hid (by simp [baseFlush,hok])
   clear hok
   go_wp2_with (first | (refine wpList_store_bk [.int .i64 0,.slice none 0 0,.int .i64 0,.slice none 0 0,.slice none 0 0,.int .i64 0,.int .i64 0,.int .i64 0,.slice none 0 0,.int .i64 0,.int .i64 0,.int .i64 0,.slice none 0 0,.slice none 0 0,.slice none 0 0,.int .i64 0,.slice none 0 0,.slice none 0 0,.int .i64 0,.int .i64 0,.int .i64 0,.int .i64 0,.int .i64 0,.int .i64 0] kR1 rfl rfl (by kernel_rfl) rfl (by exact Nat.le_of_ble_eq_true rfl) ?_;intro WE btE kE;rw [putL_allO _ [.int .i64 0,.slice none 0 0,.int .i64 0,.slice none 0 0,.slice none 0 0,.int .i64 0,.int .i64 0,.int .i64 0,.slice none 0 0,.int .i64 0,.int .i64 0,.int .i64 0,.slice none 0 0,.slice none 0 0,.slice none 0 0,.int .i64 0,.slice none 0 0,.slice none 0 0,.int .i64 0,.int .i64 0,.int .i64 0,.int .i64 0,.int .i64 0,.int .i64 0] (by rfl)] at kE))
   refine bodyPost_ret (results_bk kE _ _ Tryz.results7 rfl Tryz.underlying54 rfl (by kernel_rfl)) rfl ?_
   rw [HZ.out]
   exact ⟨[.int .i64 0,.slice none 0 0,.int .i64 0,.slice none 0 0,.slice none 0 0,.int .i64 0,.int .i64 0,.int .i64 0,.slice none 0 0,.int .i64 0,.int .i64 0,.int .i64 0,.slice none 0 0,.slice none 0 0,.slice none 0 0,.int .i64 0,.slice none 0 0,.slice none 0 0,.int .i64 0,.int .i64 0,.int .i64 0,.int .i64 0,.int .i64 0,.int .i64 0],[],rfl,own_zeroBaseO _ _ _,List.nodup_nil,uu1.but btE (by omega)⟩
 | true =>
   have HZ:Hid (baseFlush x=(x.1,x.2.1,((x.2.2.1.1.1,flushS x.2.2.1.1.2.1 x.2.2.1.1.2.2,[]),x.2.2.1.2),x.2.2.1.2.2.2.1,x.2.2.2.2)):=Lib.hid (by simp [baseFlush,hok])
   have hp:=base_puts hok
   clear hok
   have CC:=Lib.hid (HC.out _ uu1)
   have HP:=Lib.hid hp
   clear hp
   go_wp2_with (first | (refine wpList_load_bk [t0,t1,k0,k1,k2,k3,k4,k5,k6,k7,k8,k9,k10,k11,k12,j0,j1,j2,j3,j4,j5,j6,.int .i64 x.2.2.2.1,.int .i64 x.2.2.2.2] kB1 rfl Tryz.underlying54 rfl (by kernel_rfl) (by rfl) ?_))
   refine CC.out.mono ?_
   rintro e w2 ⟨g,csb,blb,rfl,kg,ob,ndb,hgn,hge,u2⟩
   obtain ⟨ct,cc,cj,b1,b2,b3,rfl,rfl,ot,oc,oj,bf,bp⟩:=openO_base ob
   clear ob CC
   obtain ⟨T0,T1,rfl⟩:=len_2o (good_Btree.len (good_Btree.own_rep ot))
   have oneT:=good_Btree.one (good_Btree.own_rep ot)
   obtain ⟨K0,K1,K2,K3,K4,K5,K6,K7,K8,K9,K10,K11,K12,rfl⟩:=len_13o (good_Cache.len (good_Cache.own_rep oc))
   have oneC:=good_Cache.one (good_Cache.own_rep oc)
   obtain ⟨D1,d1,bl1,D2,d2,bl2,rfl,rfl,i0,s1,s2,i3,i4,i5,i6⟩:=openOJournal oj
   have hn:(b1++b2++bl1++bl2).Nodup:=by simpa [List.append_assoc] using ndb
   have hg1:g ∉ bl1:=fun hm=>hgn (by simp [hm])
   have hgb:∀y∈b1++b2,y≠g:=fun y hy e=>hgn (by rw [← e];simp only [List.mem_append] at hy ⊢;rcases hy with h | h <;> simp [h])
   have n12 : (bl1 ++ bl2).Nodup := by have h:((b1++b2)++(bl1++bl2)).Nodup:=by simpa [List.append_assoc] using hn
                                       exact (List.nodup_append.1 h).2.1
   have n3:((b1++b2)++bl1).Nodup:=(List.nodup_append.1 hn).1
   have hd:=(List.nodup_append.1 n3).2.2
   have CF:=Lib.hid (c_Bflush (x:=x) (lo:=w1.heap.size) kg s1 s2 n12 hg1 HP.out)
   have kR2:=kR1.up u2
   have z2:=u2.size
   have hgl:=kg.lt
   clear kg hn
   go_wp2_with fail
   refine CF.out.mono ?_
   rintro e w3 ⟨rfl,k3,s3,on3⟩
   have z3:=on3.size
   have kR3:=kR2.only on3 (fun hm=>by
     rcases List.mem_cons.1 hm with h | h
     · omega
     · have:=(s1.in_ good_S _ h).1
       omega)
   have hone4:([T0,T1,K0,K1,K2,K3,K4,K5,K6,K7,K8,K9,K10,K11,K12,.int .i64 x.2.2.1.1.1,.slice D1 x.2.2.1.1.2.1.length d1,.slice none 0 0,.int .i64 x.2.2.1.2.1,.int .i64 x.2.2.1.2.2.1,.int .i64 x.2.2.1.2.2.2.1,.int .i64 x.2.2.1.2.2.2.2,.int .i64 x.2.2.1.2.2.2.1,.int .i64 x.2.2.2.2]:List Value).all (·.oneCell')=true:=by
     rw [List.all_eq_true]
     intro v hv
     have hv':v∈[T0,T1]++[K0,K1,K2,K3,K4,K5,K6,K7,K8,K9,K10,K11,K12]++[.int .i64 x.2.2.1.1.1,.slice D1 x.2.2.1.1.2.1.length d1,.slice none 0 0,.int .i64 x.2.2.1.2.1,.int .i64 x.2.2.1.2.2.1,.int .i64 x.2.2.1.2.2.2.1,.int .i64 x.2.2.1.2.2.2.2,.int .i64 x.2.2.1.2.2.2.1,.int .i64 x.2.2.2.2]:=hv
     simp only [List.mem_append] at hv'
     rcases hv' with (h | h) | h
     · exact oneT v h
     · exact oneC v h
     · simp only [List.mem_cons,List.mem_nil_iff,or_false,List.not_mem_nil] at h
       rcases h with rfl | rfl | rfl | rfl | rfl | rfl | rfl | rfl | rfl <;> rfl
   go_wp2_with (first | (refine wpList_load_bk [T0,T1,K0,K1,K2,K3,K4,K5,K6,K7,K8,K9,K10,K11,K12,.int .i64 x.2.2.1.1.1,.slice D1 x.2.2.1.1.2.1.length d1,.slice none 0 0,.int .i64 x.2.2.1.2.1,.int .i64 x.2.2.1.2.2.1,.int .i64 x.2.2.1.2.2.2.1,.int .i64 x.2.2.1.2.2.2.2,.int .i64 x.2.2.1.2.2.2.1,.int .i64 x.2.2.2.2] k3 rfl Tryz.underlying54 rfl (by kernel_rfl) (by rfl) ?_) | (refine wpList_store_bk [T0,T1,K0,K1,K2,K3,K4,K5,K6,K7,K8,K9,K10,K11,K12,.int .i64 x.2.2.1.1.1,.slice D1 x.2.2.1.1.2.1.length d1,.slice none 0 0,.int .i64 x.2.2.1.2.1,.int .i64 x.2.2.1.2.2.1,.int .i64 x.2.2.1.2.2.2.1,.int .i64 x.2.2.1.2.2.2.2,.int .i64 x.2.2.1.2.2.2.1,.int .i64 x.2.2.2.2] kR3 rfl rfl (by kernel_rfl) hone4 (by exact Nat.le_of_ble_eq_true rfl) ?_;intro WE btE kE;rw [putL_allO _ [T0,T1,K0,K1,K2,K3,K4,K5,K6,K7,K8,K9,K10,K11,K12,.int .i64 x.2.2.1.1.1,.slice D1 x.2.2.1.1.2.1.length d1,.slice none 0 0,.int .i64 x.2.2.1.2.1,.int .i64 x.2.2.1.2.2.1,.int .i64 x.2.2.1.2.2.2.1,.int .i64 x.2.2.1.2.2.2.2,.int .i64 x.2.2.1.2.2.2.1,.int .i64 x.2.2.2.2] (by rfl)] at kE))
   refine bodyPost_ret (results_bk kE _ _ Tryz.results7 rfl Tryz.underlying54 rfl (by kernel_rfl)) rfl ?_
   rw [HZ.out]
   have zE:WE.heap.size=w3.heap.size:=btE.size
   have keepB:∀y∈b1++b2,w.heap.size+1<y→y<w2.heap.size→WE.heap[y]?=w2.heap[y]?:=fun y hy h1 h2=>(btE.block y (by omega)).trans (on3.block y h2 (fun hm=>by
     rcases List.mem_cons.1 hm with h | h
     · exact hgb y hy h
     · exact hd y hy y h rfl))
   have ot5:=good_Btree.own_wide (good_Btree.own_keep ot (fun b hb=>by have hi:=good_Btree.own_in ot b hb;exact keepB b (List.mem_append_left _ hb) (by omega) hi.2)) (show w.heap.size≤_ by omega) (show w2.heap.size≤WE.heap.size by omega)
   have oc5:=good_Cache.own_wide (good_Cache.own_keep oc (fun b hb=>by have hi:=good_Cache.own_in oc b hb;exact keepB b (List.mem_append_right _ hb) (by omega) hi.2)) (show w.heap.size≤_ by omega) (show w2.heap.size≤WE.heap.size by omega)
   have s5:=(s3.keep good_S (fun y hy=>btE.block y (by have:=(s3.in_ good_S y hy).1;omega))).wide good_S (show w.heap.size≤_ by omega) (show w3.heap.size≤WE.heap.size by omega)
   have oj5:shJournal.own WE w.heap.size WE.heap.size _ ((x.2.2.1.1.1,flushS x.2.2.1.1.2.1 x.2.2.1.1.2.2,[]),x.2.2.1.2) _:=mkOJournal (x:=((x.2.2.1.1.1,flushS x.2.2.1.1.2.1 x.2.2.1.1.2.2,[]),x.2.2.1.2)) i0 s5 (SO.nil WE w.heap.size WE.heap.size) i3 i4 i5 i6
   have hFL:(flushS x.2.2.1.1.2.1 x.2.2.1.1.2.2).length=x.2.2.1.1.2.1.length:=flushS_len _ _
   dsimp only [List.length_nil] at oj5
   rw [hFL,List.append_nil] at oj5
   have hob:=mkO_base ot5 oc5 oj5 i5 bp
   refine ⟨[T0,T1,K0,K1,K2,K3,K4,K5,K6,K7,K8,K9,K10,K11,K12,.int .i64 x.2.2.1.1.1,.slice D1 x.2.2.1.1.2.1.length d1,.slice none 0 0,.int .i64 x.2.2.1.2.1,.int .i64 x.2.2.1.2.2.1,.int .i64 x.2.2.1.2.2.2.1,.int .i64 x.2.2.1.2.2.2.2,.int .i64 x.2.2.1.2.2.2.1,.int .i64 x.2.2.2.2],_,rfl,hob,?_,((uu1.trans u2).only on3 (fun y hy=>?_)).but btE (by omega)⟩
   · rw [← List.append_assoc]
     exact n3
   · rcases List.mem_cons.1 hy with h | h
     · omega
     · have:=(s1.in_ good_S _ h).1
       omega
theorem cs0_FlushBase (v:Value) (x:TBase) (w:World) (h:AV shBase w v x) (hn:shBase.sz x≤1048576):Calls Tryz.prog 5 #[v] w (ToV shBase (baseFlush x) w):=by
 have hv:=h
 obtain ⟨cs,rfl,h⟩:=h
 obtain ⟨n1,n2,n3⟩:=base_szs hn
 obtain ⟨ct,cc,cj,rfl,ht,hc,hj,bf,bp⟩:=open_base h
 obtain ⟨t0,t1,rfl⟩:=len_2o (good_Btree.len ht)
 obtain ⟨k0,k1,k2,k3,k4,k5,k6,k7,k8,k9,k10,k11,k12,rfl⟩:=len_13o (good_Cache.len hc)
 obtain ⟨j0,j1,j2,j3,j4,j5,j6,rfl⟩:=len_7o (good_Journal.len hj)
 exact flush_base_spec (Lib.hid fun W u=>cs_BaseOk _ x W (hv.up good_Base u) hn) (Lib.hid fun W u hp=>base_flush_spec (Lib.hid fun W' u'=>c_l20Own _ x W' (hv.up good_Base (u.trans u')) hn) (Lib.hid fun W' v' h'=>c_l19Flush v' x.2.2.1 W' h' n3 hp))
theorem cs_FlushBase (v:Value) (x:TBase) (w:World) (h:AV shBase w v x) (hn:shBase.sz x≤1048576):Calls Tryz.prog 5 #[v] w (RpV shBase (baseFlush x) w):=(cs0_FlushBase v x w h hn).mono fun _ _ h=>h.rp good_Base
theorem ci_FlushBase (v:Value) (x:TBase) (w:World) (h:AV shBase w v x) (hn:shBase.sz x≤1048576) (htab:Tab w) (hm:MaxL w):Calls Tryz.prog 7 #[v] w (ToV shBase (baseFlush x) w):=by
 have hv:=h
 obtain ⟨cs,rfl,h⟩:=h
 obtain ⟨ct,cc,cj,rfl,ht,hc,hj,bf,bp⟩:=open_base h
 obtain ⟨t0,t1,rfl⟩:=len_2o (good_Btree.len ht)
 obtain ⟨k0,k1,k2,k3,k4,k5,k6,k7,k8,k9,k10,k11,k12,rfl⟩:=len_13o (good_Cache.len hc)
 obtain ⟨j0,j1,j2,j3,j4,j5,j6,rfl⟩:=len_7o (good_Journal.len hj)
 exact flush_base_impl (Lib.hid fun W u=>ci_BaseOk _ x W (hv.up good_Base u) hn (tab_up htab u) (maxL_up hm u)) (Lib.hid fun W u=>c_copyBase _ x W (hv.up good_Base u) hn)
end Go.Proofs.YthdnicfbnihoaaaGreatDoor
