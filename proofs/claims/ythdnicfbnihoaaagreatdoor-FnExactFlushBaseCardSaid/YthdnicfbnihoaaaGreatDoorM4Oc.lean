/-
 Copies of a base: the program's copyBase,the reference's l20Own.
-/
import Derived.Test.YthdnicfbnihoaaaGreatDoorM4Ob
import Derived.Test.YthdnicfbnihoaaaGreatDoorM4Et
import Derived.Test.YthdnicfbnihoaaaGreatDoorM4Fj
import Derived.Test.YthdnicfbnihoaaaGreatDoorM4Nv
import Derived.Test.YthdnicfbnihoaaaGreatDoorM4K
import Derived.Deep.RegionHeld3
set_option maxHeartbeats 16000000
set_option maxRecDepth 100000
namespace Go.Proofs.YthdnicfbnihoaaaGreatDoor
open Go.RowKit
set_option linter.unusedVariables false
set_option linter.unusedSimpArgs false
def ToPtr {α:Type} (s:Sh α) (t:TypeId) (x:α) (w:World) (e:Ending) (w':World):Prop :=
 ∃g cs bl,e=.returned (.pointer (some ⟨g,0,none⟩))∧Bk w' g t cs.toArray∧s.own w' w.heap.size w'.heap.size cs x bl∧bl.Nodup∧g ∉ bl∧w.heap.size≤g∧Up w w'
theorem len_2o {l:List Value} (h:l.length=2):∃a0 a1,l=[a0,a1]:=by
 match l,h with
 | [a0,a1],_=>exact ⟨_,_,rfl⟩
theorem len_7o {l:List Value} (h:l.length=7):∃a0 a1 a2 a3 a4 a5 a6,l=[a0,a1,a2,a3,a4,a5,a6]:=by
 match l,h with
 | [a0,a1,a2,a3,a4,a5,a6],_=>exact ⟨_,_,_,_,_,_,_,rfl⟩
theorem len_13o {l:List Value} (h:l.length=13):∃a0 a1 a2 a3 a4 a5 a6 a7 a8 a9 a10 a11 a12,l=[a0,a1,a2,a3,a4,a5,a6,a7,a8,a9,a10,a11,a12]:=by
 match l,h with
 | [a0,a1,a2,a3,a4,a5,a6,a7,a8,a9,a10,a11,a12],_=>exact ⟨_,_,_,_,_,_,_,_,_,_,_,_,_,rfl⟩
theorem putL_allO:∀(l cs:List Value),l.length=cs.length→putL l 0 cs=cs
 | [],[],_=>rfl
 | [],_::_,h=>by simp at h
 | _::_,[],h=>by simp at h
 | x::l,c::cs,h=>by rw [putL,putL_allO l cs (by simpa using h)]
theorem ownBase {W:World} {lo m1 m2 hi:Nat} {ct cc cj:List Value} {xt:TBtree} {xc:TCache} {xj:TJournal} {nF nP:Int} {blt blc blj:List Nat} (ht:shBtree.own W lo m1 ct xt blt) (hc:shCache.own W m1 m2 cc xc blc) (hj:shJournal.own W m2 hi cj xj blj) (h1:lo≤m1) (h2:m1≤m2) (h3:m2≤hi) (hF:I64 nF) (hP:I64 nP) (n1:blt.Nodup) (n2:blc.Nodup) (n3:blj.Nodup) :
   ∃bl,shBase.own W lo hi (ct++(cc++(cj++([.int .i64 nF]++[.int .i64 nP])))) (xt,xc,xj,nF,nP) bl∧bl.Nodup∧∀b,b∈bl→b∈blt∨b∈blc∨b∈blj:=by
 have hot:=good_Btree.own_wide ht (Nat.le_refl lo) (show m1≤hi by omega)
 have hoc:=good_Cache.own_wide hc (show lo≤m1 by omega) (show m2≤hi by omega)
 have hoj:=good_Journal.own_wide hj (show lo≤m2 by omega) (Nat.le_refl hi)
 have hf0:shI.own W lo hi [.int .i64 nF] nF []:=⟨⟨rfl,hF⟩,rfl⟩
 have hp0:shI.own W lo hi [.int .i64 nP] nP []:=⟨⟨rfl,hP⟩,rfl⟩
 have h1:=mkO_P (a:=shI) (b:=shI) good_I (x:=(nF,nP)) hf0 hp0
 have h2:=mkO_P (a:=shJournal) (b:=shP shI shI) good_Journal (x:=(xj,nF,nP)) hoj h1
 have h3:=mkO_P (a:=shCache) (b:=shP shJournal (shP shI shI)) good_Cache (x:=(xc,xj,nF,nP)) hoc h2
 have h4:=mkO_P (a:=shBtree) (b:=shP shCache (shP shJournal (shP shI shI))) good_Btree (x:=(xt,xc,xj,nF,nP)) hot h3
 refine ⟨_,h4,?_,?_⟩
 · simp only [List.append_nil]
   refine List.nodup_append.2 ⟨n1,List.nodup_append.2 ⟨n2,n3,?_⟩,?_⟩
   · rintro b1 hb1 b2 hb2 rfl
     have:=good_Cache.own_in hc b1 hb1
     have:=good_Journal.own_in hj b1 hb2
     omega
   · rintro b1 hb1 b2 hb2 rfl
     have:=good_Btree.own_in ht b1 hb1
     rcases List.mem_append.1 hb2 with h | h
     · have:=good_Cache.own_in hc b1 h
       omega
     · have:=good_Journal.own_in hj b1 h
       omega
 · intro b hb
   simp only [List.append_nil,List.mem_append] at hb
   exact hb
theorem wpAnyH_weaken {P:Program} {md:Region.Mode} {ops:Array Oper} {Q:Exit→Act→World→Prop} {S1 S2:World→Prop} (hSS:∀W,S2 W→S1 W):∀(fuel:Nat) (listed:Array Bool) (a:Act) (w:World),wpAnyH P md ops Q S2 fuel listed a w→wpAnyH P md ops Q S1 fuel listed a w
 | 0,_,_,_,h=>h
 | fuel+1,_,_,_,h=>⟨h.1,fun i hi=>wpOp_mono (fun a' w' h'=>⟨hSS _ h'.1,wpAnyH_weaken hSS fuel _ a' w' h'.2⟩) (h.2 i hi)⟩
theorem copy_base_impl {w:World} {t0 t1 k0 k1 k2 k3 k4 k5 k6 k7 k8 k9 k10 k11 k12 j0 j1 j2 j3 j4 j5 j6:Value} {nF nP:Int} {xt:TBtree} {xc:TCache} {xj:TJournal} (hF:I64 nF) (hP:I64 nP)
   (HT:Hid (∀W,Up w W→Calls Tryz.prog 53 #[.agg #[t0,t1]] W (ToV shBtree xt W))) (HC:Hid (∀W,Up w W→Calls Tryz.prog 54 #[.agg #[k0,k1,k2,k3,k4,k5,k6,k7,k8,k9,k10,k11,k12]] W (ToPtr shCache 50 xc W))) (HJ:Hid (∀W,Up w W→Calls Tryz.prog 55 #[.agg #[j0,j1,j2,j3,j4,j5,j6]] W (ToPtr shJournal 52 xj W))) :
   Calls Tryz.prog 20 #[.agg #[t0,t1,k0,k1,k2,k3,k4,k5,k6,k7,k8,k9,k10,k11,k12,j0,j1,j2,j3,j4,j5,j6,.int .i64 nF,.int .i64 nP]] w (ToPtr shBase 54 (xt,xc,xj,nF,nP) w):=by
 have u0:Up w (w.alloc (.cells #[t0,t1,k0,k1,k2,k3,k4,k5,k6,k7,k8,k9,k10,k11,k12,j0,j1,j2,j3,j4,j5,j6,.int .i64 nF,.int .i64 nP] 54)).drew:=((Up.refl w).alloc _).drew
 have kB:=(Bk.new w 54 #[t0,t1,k0,k1,k2,k3,k4,k5,k6,k7,k8,k9,k10,k11,k12,j0,j1,j2,j3,j4,j5,j6,.int .i64 nF,.int .i64 nP]).drew
 have zz:(w.alloc (.cells #[t0,t1,k0,k1,k2,k3,k4,k5,k6,k7,k8,k9,k10,k11,k12,j0,j1,j2,j3,j4,j5,j6,.int .i64 nF,.int .i64 nP] 54)).drew.heap.size=w.heap.size+1:=by simp [World.drew]
 go_enter Tryz.func20,Tryz.ntmps20
 go_wp2_with fail
 generalize hW0:(w.alloc (.cells #[t0,t1,k0,k1,k2,k3,k4,k5,k6,k7,k8,k9,k10,k11,k12,j0,j1,j2,j3,j4,j5,j6,.int .i64 nF,.int .i64 nP] 54))=W0 at u0 kB zz ⊢
 clear hW0
 refine wp_region_held_drew (S:=fun W=>Bk W w.heap.size 54 #[t0,t1,k0,k1,k2,k3,k4,k5,k6,k7,k8,k9,k10,k11,k12,j0,j1,j2,j3,j4,j5,j6,.int .i64 nF,.int .i64 nP]) (by kernel_rfl) kB (fun hH=>?_)
 refine wpAnyH_take (i:=0) (v:=.pointer (some ⟨w.heap.size,0,none⟩)) rfl (by kernel_rfl) (by kernel_rfl) (by kernel_rfl) (fun _ _ _ h=>h) (Or.inl ⟨by rfl,fun W hW=>by go_simp⟩) hH ?_
 try simp only [Act.put,List.getElem_toArray,List.getElem_cons_succ,List.getElem_cons_zero,List.setIfInBounds_toArray,List.set_cons_zero,List.set_cons_succ]
 refine wpAnyH_take (i:=1) (v:=.agg [t0,t1].toArray) rfl (by kernel_rfl) (by kernel_rfl) (by kernel_rfl) (fun _ _ _ h=>h) (yieldsIf_load_mid (by rfl) _ _ rfl _ _ rfl [t0,t1] _ (fun W hW=>Bk.range hW 0 [t0,t1] rfl) Tryz.underlying42 rfl (by kernel_rfl)) hH ?_
 try simp only [Act.put,List.getElem_toArray,List.getElem_cons_succ,List.getElem_cons_zero,List.setIfInBounds_toArray,List.set_cons_zero,List.set_cons_succ]
 refine wpAnyH_take (i:=3) (v:=.pointer (some ⟨w.heap.size,2,none⟩)) rfl (by kernel_rfl) (by kernel_rfl) (by kernel_rfl) (fun _ _ _ h=>h) (Or.inl ⟨by rfl,fun W hW=>by go_simp⟩) hH ?_
 try simp only [Act.put,List.getElem_toArray,List.getElem_cons_succ,List.getElem_cons_zero,List.setIfInBounds_toArray,List.set_cons_zero,List.set_cons_succ]
 refine wpAnyH_take (i:=4) (v:=.agg [k0,k1,k2,k3,k4,k5,k6,k7,k8,k9,k10,k11,k12].toArray) rfl (by kernel_rfl) (by kernel_rfl) (by kernel_rfl) (fun _ _ _ h=>h) (yieldsIf_load_mid (by rfl) _ _ rfl _ _ rfl [k0,k1,k2,k3,k4,k5,k6,k7,k8,k9,k10,k11,k12] _ (fun W hW=>Bk.range hW 2 [k0,k1,k2,k3,k4,k5,k6,k7,k8,k9,k10,k11,k12] rfl) Tryz.underlying50 rfl (by kernel_rfl)) hH ?_
 try simp only [Act.put,List.getElem_toArray,List.getElem_cons_succ,List.getElem_cons_zero,List.setIfInBounds_toArray,List.set_cons_zero,List.set_cons_succ]
 refine wpAnyH_take (i:=8) (v:=.pointer (some ⟨w.heap.size,15,none⟩)) rfl (by kernel_rfl) (by kernel_rfl) (by kernel_rfl) (fun _ _ _ h=>h) (Or.inl ⟨by rfl,fun W hW=>by go_simp⟩) hH ?_
 try simp only [Act.put,List.getElem_toArray,List.getElem_cons_succ,List.getElem_cons_zero,List.setIfInBounds_toArray,List.set_cons_zero,List.set_cons_succ]
 refine wpAnyH_take (i:=9) (v:=.agg [j0,j1,j2,j3,j4,j5,j6].toArray) rfl (by kernel_rfl) (by kernel_rfl) (by kernel_rfl) (fun _ _ _ h=>h) (yieldsIf_load_mid (by rfl) _ _ rfl _ _ rfl [j0,j1,j2,j3,j4,j5,j6] _ (fun W hW=>Bk.range hW 15 [j0,j1,j2,j3,j4,j5,j6] rfl) Tryz.underlying52 rfl (by kernel_rfl)) hH ?_
 try simp only [Act.put,List.getElem_toArray,List.getElem_cons_succ,List.getElem_cons_zero,List.setIfInBounds_toArray,List.set_cons_zero,List.set_cons_succ]
 refine wpAnyH_take (i:=13) (v:=.pointer (some ⟨w.heap.size,22,none⟩)) rfl (by kernel_rfl) (by kernel_rfl) (by kernel_rfl) (fun _ _ _ h=>h) (Or.inl ⟨by rfl,fun W hW=>by go_simp⟩) hH ?_
 try simp only [Act.put,List.getElem_toArray,List.getElem_cons_succ,List.getElem_cons_zero,List.setIfInBounds_toArray,List.set_cons_zero,List.set_cons_succ]
 refine wpAnyH_take (i:=14) (v:=.int .i64 nF) rfl (by kernel_rfl) (by kernel_rfl) (by kernel_rfl) (fun _ _ _ h=>h) (Or.inl ⟨by rfl,fun W hW=>by have q:W.cell? ⟨w.heap.size,22,none⟩=some (.int .i64 nF):=Bk.cell hW 22;clear hW;go_simp⟩) hH ?_
 try simp only [Act.put,List.getElem_toArray,List.getElem_cons_succ,List.getElem_cons_zero,List.setIfInBounds_toArray,List.set_cons_zero,List.set_cons_succ]
 refine wpAnyH_take (i:=15) (v:=.pointer (some ⟨w.heap.size,23,none⟩)) rfl (by kernel_rfl) (by kernel_rfl) (by kernel_rfl) (fun _ _ _ h=>h) (Or.inl ⟨by rfl,fun W hW=>by go_simp⟩) hH ?_
 try simp only [Act.put,List.getElem_toArray,List.getElem_cons_succ,List.getElem_cons_zero,List.setIfInBounds_toArray,List.set_cons_zero,List.set_cons_succ]
 refine wpAnyH_take (i:=16) (v:=.int .i64 nP) rfl (by kernel_rfl) (by kernel_rfl) (by kernel_rfl) (fun _ _ _ h=>h) (Or.inl ⟨by rfl,fun W hW=>by have q:W.cell? ⟨w.heap.size,23,none⟩=some (.int .i64 nP):=Bk.cell hW 23;clear hW;go_simp⟩) hH ?_
 try simp only [Act.put,List.getElem_toArray,List.getElem_cons_succ,List.getElem_cons_zero,List.setIfInBounds_toArray,List.set_cons_zero,List.set_cons_succ]
 refine wpAnyH_ready (rs:=[2]) (by kernel_rfl) (by simp) ?_
 refine AllReadyH.cons rfl (fun KK hK=>?_) AllReadyH.nil
 go_simp
 refine (HT.out _ u0).mono ?_
 rintro e w1 ⟨cst,blt,rfl,ot,ndt,u1⟩
 obtain ⟨T0,T1,rfl⟩:=len_2o (good_Btree.len (good_Btree.own_rep ot))
 have U1:=u0.trans u1
 have kB1:=kB.up u1
 have z1:=u1.size
 go_wp2_with fail
 refine hK.out _ _ kB1 (fun hH=>?_)
 clear hK KK
 try simp only [Act.put,List.getElem_toArray,List.getElem_cons_succ,List.getElem_cons_zero,List.setIfInBounds_toArray,List.set_cons_zero,List.set_cons_succ]
 refine wpAnyH_ready (rs:=[5]) (by kernel_rfl) (by simp) ?_
 refine AllReadyH.cons rfl (fun KK hK=>?_) AllReadyH.nil
 go_simp
 refine (HC.out _ U1).mono ?_
 rintro e w2 ⟨gc,csc,blc,rfl,kc,oc,ndc,ngc,hgc,u2⟩
 obtain ⟨K0,K1,K2,K3,K4,K5,K6,K7,K8,K9,K10,K11,K12,rfl⟩:=len_13o (good_Cache.len (good_Cache.own_rep oc))
 have U2:=U1.trans u2
 have kB2:=kB1.up u2
 have z2:=u2.size
 have hgc2:=kc.lt
 go_wp2_with fail
 refine hK.out _ _ kB2 (fun hH=>?_)
 clear hK KK
 try simp only [Act.put,List.getElem_toArray,List.getElem_cons_succ,List.getElem_cons_zero,List.setIfInBounds_toArray,List.set_cons_zero,List.set_cons_succ]
 refine wpAnyH_weaken (S2:=fun W=>Bk W w.heap.size 54 #[t0,t1,k0,k1,k2,k3,k4,k5,k6,k7,k8,k9,k10,k11,k12,j0,j1,j2,j3,j4,j5,j6,.int .i64 nF,.int .i64 nP]∧Bk W gc 50 #[K0,K1,K2,K3,K4,K5,K6,K7,K8,K9,K10,K11,K12]) (fun W h=>h.1) _ _ _ _ ?_
 have hH2:Bk w2 w.heap.size 54 #[t0,t1,k0,k1,k2,k3,k4,k5,k6,k7,k8,k9,k10,k11,k12,j0,j1,j2,j3,j4,j5,j6,.int .i64 nF,.int .i64 nP]∧Bk w2 gc 50 #[K0,K1,K2,K3,K4,K5,K6,K7,K8,K9,K10,K11,K12]:=⟨kB2,kc⟩
 refine wpAnyH_take (i:=6) (v:=.pointer (some ⟨gc,0,none⟩)) rfl (by kernel_rfl) (by kernel_rfl) (by kernel_rfl) (fun _ _ _ h=>h) (Or.inl ⟨by rfl,fun W hW=>by go_simp⟩) hH2 ?_
 try simp only [Act.put,List.getElem_toArray,List.getElem_cons_succ,List.getElem_cons_zero,List.setIfInBounds_toArray,List.set_cons_zero,List.set_cons_succ]
 refine wpAnyH_take (i:=7) (v:=.agg [K0,K1,K2,K3,K4,K5,K6,K7,K8,K9,K10,K11,K12].toArray) rfl (by kernel_rfl) (by kernel_rfl) (by kernel_rfl) (fun _ _ _ h=>h) (yieldsIf_load_mid (by rfl) _ _ rfl _ _ rfl [K0,K1,K2,K3,K4,K5,K6,K7,K8,K9,K10,K11,K12] _ (fun W hW=>Bk.range hW.2 0 [K0,K1,K2,K3,K4,K5,K6,K7,K8,K9,K10,K11,K12] rfl) Tryz.underlying50 rfl (by kernel_rfl)) hH2 ?_
 try simp only [Act.put,List.getElem_toArray,List.getElem_cons_succ,List.getElem_cons_zero,List.setIfInBounds_toArray,List.set_cons_zero,List.set_cons_succ]
 refine wpAnyH_ready (rs:=[10]) (by kernel_rfl) (by simp) ?_
 refine AllReadyH.cons rfl (fun KK hK=>?_) AllReadyH.nil
 go_simp
 refine (HJ.out _ U2).mono ?_
 rintro e w3 ⟨gj,csj,blj,rfl,kj,oj,ndj,ngj,hgj,u3⟩
 obtain ⟨J0,J1,J2,J3,J4,J5,J6,rfl⟩:=len_7o (good_Journal.len (good_Journal.own_rep oj))
 have U3:=U2.trans u3
 have kB3:=kB2.up u3
 have kc3:=kc.up u3
 have z3:=u3.size
 have hgj2:=kj.lt
 go_wp2_with fail
 refine hK.out _ _ ⟨kB3,kc3⟩ (fun hH=>?_)
 clear hK KK
 try simp only [Act.put,List.getElem_toArray,List.getElem_cons_succ,List.getElem_cons_zero,List.setIfInBounds_toArray,List.set_cons_zero,List.set_cons_succ]
 refine wpAnyH_weaken (S2:=fun W=>(Bk W w.heap.size 54 #[t0,t1,k0,k1,k2,k3,k4,k5,k6,k7,k8,k9,k10,k11,k12,j0,j1,j2,j3,j4,j5,j6,.int .i64 nF,.int .i64 nP]∧Bk W gc 50 #[K0,K1,K2,K3,K4,K5,K6,K7,K8,K9,K10,K11,K12])∧Bk W gj 52 #[J0,J1,J2,J3,J4,J5,J6]) (fun W h=>h.1) _ _ _ _ ?_
 have hH3:(Bk w3 w.heap.size 54 #[t0,t1,k0,k1,k2,k3,k4,k5,k6,k7,k8,k9,k10,k11,k12,j0,j1,j2,j3,j4,j5,j6,.int .i64 nF,.int .i64 nP]∧Bk w3 gc 50 #[K0,K1,K2,K3,K4,K5,K6,K7,K8,K9,K10,K11,K12])∧Bk w3 gj 52 #[J0,J1,J2,J3,J4,J5,J6]:=⟨⟨kB3,kc3⟩,kj⟩
 refine wpAnyH_take (i:=11) (v:=.pointer (some ⟨gj,0,none⟩)) rfl (by kernel_rfl) (by kernel_rfl) (by kernel_rfl) (fun _ _ _ h=>h) (Or.inl ⟨by rfl,fun W hW=>by go_simp⟩) hH3 ?_
 try simp only [Act.put,List.getElem_toArray,List.getElem_cons_succ,List.getElem_cons_zero,List.setIfInBounds_toArray,List.set_cons_zero,List.set_cons_succ]
 refine wpAnyH_take (i:=12) (v:=.agg [J0,J1,J2,J3,J4,J5,J6].toArray) rfl (by kernel_rfl) (by kernel_rfl) (by kernel_rfl) (fun _ _ _ h=>h) (yieldsIf_load_mid (by rfl) _ _ rfl _ _ rfl [J0,J1,J2,J3,J4,J5,J6] _ (fun W hW=>Bk.range hW.2 0 [J0,J1,J2,J3,J4,J5,J6] rfl) Tryz.underlying52 rfl (by kernel_rfl)) hH3 ?_
 try simp only [Act.put,List.getElem_toArray,List.getElem_cons_succ,List.getElem_cons_zero,List.setIfInBounds_toArray,List.set_cons_zero,List.set_cons_succ]
 refine wpAnyH_take (i:=17) (v:=.agg #[T0,T1,K0,K1,K2,K3,K4,K5,K6,K7,K8,K9,K10,K11,K12,J0,J1,J2,J3,J4,J5,J6,.int .i64 nF,.int .i64 nP]) rfl (by kernel_rfl) (by kernel_rfl) (by kernel_rfl) (fun _ _ _ h=>h) (Or.inl ⟨by rfl,fun W hW=>by go_simp⟩) hH3 ?_
 try simp only [Act.put,List.getElem_toArray,List.getElem_cons_succ,List.getElem_cons_zero,List.setIfInBounds_toArray,List.set_cons_zero,List.set_cons_succ]
 refine wpAnyH_ready (rs:=[18]) (by kernel_rfl) (by simp) ?_
 refine AllReadyH.cons rfl (fun KK hK=>?_) AllReadyH.nil
 go_simp
 obtain ⟨W4,hW4⟩:∃W4,W4=w3.alloc (.cells #[T0,T1,K0,K1,K2,K3,K4,K5,K6,K7,K8,K9,K10,K11,K12,J0,J1,J2,J3,J4,J5,J6,.int .i64 nF,.int .i64 nP] 54):=⟨_,rfl⟩
 have u4:Up w3 W4:=by rw [hW4];exact (Up.refl _).alloc _
 have kE:Bk W4 w3.heap.size 54 #[T0,T1,K0,K1,K2,K3,K4,K5,K6,K7,K8,K9,K10,K11,K12,J0,J1,J2,J3,J4,J5,J6,.int .i64 nF,.int .i64 nP]:=by rw [hW4];exact Bk.new _ _ _
 have z4:W4.heap.size=w3.heap.size+1:=by rw [hW4];simp
 rw [← hW4]
 clear hW4
 refine hK.out _ _ ⟨⟨kB3.up u4,kc3.up u4⟩,kj.up u4⟩ (fun hH4=>?_)
 clear hK KK
 try simp only [Act.put,List.getElem_toArray,List.getElem_cons_succ,List.getElem_cons_zero,List.setIfInBounds_toArray,List.set_cons_zero,List.set_cons_succ]
 refine wpAnyH_take (i:=19) (v:=.pointer (some ⟨w3.heap.size,0,none⟩)) rfl (by kernel_rfl) (by kernel_rfl) (by kernel_rfl) (fun _ _ _ h=>h) (Or.inl ⟨by rfl,fun W hW=>by go_simp⟩) hH4 ?_
 try simp only [Act.put,List.getElem_toArray,List.getElem_cons_succ,List.getElem_cons_zero,List.setIfInBounds_toArray,List.set_cons_zero,List.set_cons_succ]
 refine wpAnyH_done (by kernel_rfl) ?_ _
 go_wp2_with fail
 go_ret
 have U4:=U3.trans u4
 have z0:=u0.size
 have ht4:=good_Btree.own_wide (good_Btree.own_keep ot (fun b hb=>((u2.trans u3).trans u4).block b (good_Btree.own_in ot b hb).2)) (show w.heap.size≤_ by omega) (Nat.le_refl _)
 have hc4:=good_Cache.own_keep oc (fun b hb=>(u3.trans u4).block b (good_Cache.own_in oc b hb).2)
 have hj4:=good_Journal.own_wide (good_Journal.own_keep oj (fun b hb=>u4.block b (good_Journal.own_in oj b hb).2)) (Nat.le_refl _) (show w3.heap.size≤W4.heap.size by omega)
 obtain ⟨bl,ob,nb,hb⟩:=ownBase ht4 hc4 hj4 (by omega) (by omega) (by omega) hF hP ndt ndc ndj
 refine ⟨w3.heap.size,[T0,T1,K0,K1,K2,K3,K4,K5,K6,K7,K8,K9,K10,K11,K12,J0,J1,J2,J3,J4,J5,J6,.int .i64 nF,.int .i64 nP],bl,rfl,kE,ob,nb,fun hm=>?_,by omega,U4⟩
 rcases hb _ hm with h | h | h
 · have:=good_Btree.own_in ot _ h
   omega
 · have:=good_Cache.own_in oc _ h
   omega
 · have:=good_Journal.own_in oj _ h
   omega
theorem copy_base_spec {w:World} {t0 t1 k0 k1 k2 k3 k4 k5 k6 k7 k8 k9 k10 k11 k12 j0 j1 j2 j3 j4 j5 j6:Value} {nF nP:Int} {xt:TBtree} {xc:TCache} {xj:TJournal} (hF:I64 nF) (hP:I64 nP)
   (HT:Hid (∀W,Up w W→Calls Tryz.prog 83 #[.agg #[t0,t1]] W (ToV shBtree xt W))) (HC:Hid (∀W,Up w W→Calls Tryz.prog 84 #[.agg #[k0,k1,k2,k3,k4,k5,k6,k7,k8,k9,k10,k11,k12]] W (ToV shCache xc W))) (HJ:Hid (∀W,Up w W→Calls Tryz.prog 85 #[.agg #[j0,j1,j2,j3,j4,j5,j6]] W (ToV shJournal xj W))) :
   Calls Tryz.prog 41 #[.agg #[t0,t1,k0,k1,k2,k3,k4,k5,k6,k7,k8,k9,k10,k11,k12,j0,j1,j2,j3,j4,j5,j6,.int .i64 nF,.int .i64 nP]] w (ToV shBase (xt,xc,xj,nF,nP) w):=by
 have u0:Up w ((w.alloc (.cells #[t0,t1,k0,k1,k2,k3,k4,k5,k6,k7,k8,k9,k10,k11,k12,j0,j1,j2,j3,j4,j5,j6,.int .i64 nF,.int .i64 nP] 54)).alloc (.cells #[.int .i64 0,.slice none 0 0,.int .i64 0,.slice none 0 0,.slice none 0 0,.int .i64 0,.int .i64 0,.int .i64 0,.slice none 0 0,.int .i64 0,.int .i64 0,.int .i64 0,.slice none 0 0,.slice none 0 0,.slice none 0 0,.int .i64 0,.slice none 0 0,.slice none 0 0,.int .i64 0,.int .i64 0,.int .i64 0,.int .i64 0,.int .i64 0,.int .i64 0] 54)).drew:=(((Up.refl w).alloc _).alloc _).drew
 have kB:Bk ((w.alloc (.cells #[t0,t1,k0,k1,k2,k3,k4,k5,k6,k7,k8,k9,k10,k11,k12,j0,j1,j2,j3,j4,j5,j6,.int .i64 nF,.int .i64 nP] 54)).alloc (.cells #[.int .i64 0,.slice none 0 0,.int .i64 0,.slice none 0 0,.slice none 0 0,.int .i64 0,.int .i64 0,.int .i64 0,.slice none 0 0,.int .i64 0,.int .i64 0,.int .i64 0,.slice none 0 0,.slice none 0 0,.slice none 0 0,.int .i64 0,.slice none 0 0,.slice none 0 0,.int .i64 0,.int .i64 0,.int .i64 0,.int .i64 0,.int .i64 0,.int .i64 0] 54)).drew w.heap.size 54 #[t0,t1,k0,k1,k2,k3,k4,k5,k6,k7,k8,k9,k10,k11,k12,j0,j1,j2,j3,j4,j5,j6,.int .i64 nF,.int .i64 nP]:=((Bk.new w _ _).alloc _).drew
 have kR:Bk ((w.alloc (.cells #[t0,t1,k0,k1,k2,k3,k4,k5,k6,k7,k8,k9,k10,k11,k12,j0,j1,j2,j3,j4,j5,j6,.int .i64 nF,.int .i64 nP] 54)).alloc (.cells #[.int .i64 0,.slice none 0 0,.int .i64 0,.slice none 0 0,.slice none 0 0,.int .i64 0,.int .i64 0,.int .i64 0,.slice none 0 0,.int .i64 0,.int .i64 0,.int .i64 0,.slice none 0 0,.slice none 0 0,.slice none 0 0,.int .i64 0,.slice none 0 0,.slice none 0 0,.int .i64 0,.int .i64 0,.int .i64 0,.int .i64 0,.int .i64 0,.int .i64 0] 54)).drew (w.heap.size+1) 54 #[.int .i64 0,.slice none 0 0,.int .i64 0,.slice none 0 0,.slice none 0 0,.int .i64 0,.int .i64 0,.int .i64 0,.slice none 0 0,.int .i64 0,.int .i64 0,.int .i64 0,.slice none 0 0,.slice none 0 0,.slice none 0 0,.int .i64 0,.slice none 0 0,.slice none 0 0,.int .i64 0,.int .i64 0,.int .i64 0,.int .i64 0,.int .i64 0,.int .i64 0]:=Bk.drew (by simpa using Bk.new (w.alloc (.cells #[t0,t1,k0,k1,k2,k3,k4,k5,k6,k7,k8,k9,k10,k11,k12,j0,j1,j2,j3,j4,j5,j6,.int .i64 nF,.int .i64 nP] 54)) 54 #[.int .i64 0,.slice none 0 0,.int .i64 0,.slice none 0 0,.slice none 0 0,.int .i64 0,.int .i64 0,.int .i64 0,.slice none 0 0,.int .i64 0,.int .i64 0,.int .i64 0,.slice none 0 0,.slice none 0 0,.slice none 0 0,.int .i64 0,.slice none 0 0,.slice none 0 0,.int .i64 0,.int .i64 0,.int .i64 0,.int .i64 0,.int .i64 0,.int .i64 0])
 have zz:((w.alloc (.cells #[t0,t1,k0,k1,k2,k3,k4,k5,k6,k7,k8,k9,k10,k11,k12,j0,j1,j2,j3,j4,j5,j6,.int .i64 nF,.int .i64 nP] 54)).alloc (.cells #[.int .i64 0,.slice none 0 0,.int .i64 0,.slice none 0 0,.slice none 0 0,.int .i64 0,.int .i64 0,.int .i64 0,.slice none 0 0,.int .i64 0,.int .i64 0,.int .i64 0,.slice none 0 0,.slice none 0 0,.slice none 0 0,.int .i64 0,.slice none 0 0,.slice none 0 0,.int .i64 0,.int .i64 0,.int .i64 0,.int .i64 0,.int .i64 0,.int .i64 0] 54)).drew.heap.size=w.heap.size+2:=by simp [World.drew]
 go_enter Tryz.func41,Tryz.ntmps41
 go_wp2_with fail
 generalize hW0:((w.alloc (.cells #[t0,t1,k0,k1,k2,k3,k4,k5,k6,k7,k8,k9,k10,k11,k12,j0,j1,j2,j3,j4,j5,j6,.int .i64 nF,.int .i64 nP] 54)).alloc (.cells #[.int .i64 0,.slice none 0 0,.int .i64 0,.slice none 0 0,.slice none 0 0,.int .i64 0,.int .i64 0,.int .i64 0,.slice none 0 0,.int .i64 0,.int .i64 0,.int .i64 0,.slice none 0 0,.slice none 0 0,.slice none 0 0,.int .i64 0,.slice none 0 0,.slice none 0 0,.int .i64 0,.int .i64 0,.int .i64 0,.int .i64 0,.int .i64 0,.int .i64 0] 54))=W0 at u0 kB kR zz ⊢
 clear hW0
 refine wp_region_held_drew (S:=fun W=>Bk W w.heap.size 54 #[t0,t1,k0,k1,k2,k3,k4,k5,k6,k7,k8,k9,k10,k11,k12,j0,j1,j2,j3,j4,j5,j6,.int .i64 nF,.int .i64 nP]) (by kernel_rfl) kB (fun hH=>?_)
 refine wpAnyH_take (i:=0) (v:=.pointer (some ⟨w.heap.size,0,none⟩)) rfl (by kernel_rfl) (by kernel_rfl) (by kernel_rfl) (fun _ _ _ h=>h) (Or.inl ⟨by rfl,fun W hW=>by go_simp⟩) hH ?_
 try simp only [Act.put,List.getElem_toArray,List.getElem_cons_succ,List.getElem_cons_zero,List.setIfInBounds_toArray,List.set_cons_zero,List.set_cons_succ]
 refine wpAnyH_take (i:=1) (v:=.agg [t0,t1].toArray) rfl (by kernel_rfl) (by kernel_rfl) (by kernel_rfl) (fun _ _ _ h=>h) (yieldsIf_load_mid (by rfl) _ _ rfl _ _ rfl [t0,t1] _ (fun W hW=>Bk.range hW 0 [t0,t1] rfl) Tryz.underlying42 rfl (by kernel_rfl)) hH ?_
 try simp only [Act.put,List.getElem_toArray,List.getElem_cons_succ,List.getElem_cons_zero,List.setIfInBounds_toArray,List.set_cons_zero,List.set_cons_succ]
 refine wpAnyH_take (i:=3) (v:=.pointer (some ⟨w.heap.size,2,none⟩)) rfl (by kernel_rfl) (by kernel_rfl) (by kernel_rfl) (fun _ _ _ h=>h) (Or.inl ⟨by rfl,fun W hW=>by go_simp⟩) hH ?_
 try simp only [Act.put,List.getElem_toArray,List.getElem_cons_succ,List.getElem_cons_zero,List.setIfInBounds_toArray,List.set_cons_zero,List.set_cons_succ]
 refine wpAnyH_take (i:=4) (v:=.agg [k0,k1,k2,k3,k4,k5,k6,k7,k8,k9,k10,k11,k12].toArray) rfl (by kernel_rfl) (by kernel_rfl) (by kernel_rfl) (fun _ _ _ h=>h) (yieldsIf_load_mid (by rfl) _ _ rfl _ _ rfl [k0,k1,k2,k3,k4,k5,k6,k7,k8,k9,k10,k11,k12] _ (fun W hW=>Bk.range hW 2 [k0,k1,k2,k3,k4,k5,k6,k7,k8,k9,k10,k11,k12] rfl) Tryz.underlying50 rfl (by kernel_rfl)) hH ?_
 try simp only [Act.put,List.getElem_toArray,List.getElem_cons_succ,List.getElem_cons_zero,List.setIfInBounds_toArray,List.set_cons_zero,List.set_cons_succ]
 refine wpAnyH_take (i:=6) (v:=.pointer (some ⟨w.heap.size,15,none⟩)) rfl (by kernel_rfl) (by kernel_rfl) (by kernel_rfl) (fun _ _ _ h=>h) (Or.inl ⟨by rfl,fun W hW=>by go_simp⟩) hH ?_
 try simp only [Act.put,List.getElem_toArray,List.getElem_cons_succ,List.getElem_cons_zero,List.setIfInBounds_toArray,List.set_cons_zero,List.set_cons_succ]
 refine wpAnyH_take (i:=7) (v:=.agg [j0,j1,j2,j3,j4,j5,j6].toArray) rfl (by kernel_rfl) (by kernel_rfl) (by kernel_rfl) (fun _ _ _ h=>h) (yieldsIf_load_mid (by rfl) _ _ rfl _ _ rfl [j0,j1,j2,j3,j4,j5,j6] _ (fun W hW=>Bk.range hW 15 [j0,j1,j2,j3,j4,j5,j6] rfl) Tryz.underlying52 rfl (by kernel_rfl)) hH ?_
 try simp only [Act.put,List.getElem_toArray,List.getElem_cons_succ,List.getElem_cons_zero,List.setIfInBounds_toArray,List.set_cons_zero,List.set_cons_succ]
 refine wpAnyH_take (i:=9) (v:=.pointer (some ⟨w.heap.size,22,none⟩)) rfl (by kernel_rfl) (by kernel_rfl) (by kernel_rfl) (fun _ _ _ h=>h) (Or.inl ⟨by rfl,fun W hW=>by go_simp⟩) hH ?_
 try simp only [Act.put,List.getElem_toArray,List.getElem_cons_succ,List.getElem_cons_zero,List.setIfInBounds_toArray,List.set_cons_zero,List.set_cons_succ]
 refine wpAnyH_take (i:=10) (v:=.int .i64 nF) rfl (by kernel_rfl) (by kernel_rfl) (by kernel_rfl) (fun _ _ _ h=>h) (Or.inl ⟨by rfl,fun W hW=>by have q:W.cell? ⟨w.heap.size,22,none⟩=some (.int .i64 nF):=Bk.cell hW 22;clear hW;go_simp⟩) hH ?_
 try simp only [Act.put,List.getElem_toArray,List.getElem_cons_succ,List.getElem_cons_zero,List.setIfInBounds_toArray,List.set_cons_zero,List.set_cons_succ]
 refine wpAnyH_take (i:=11) (v:=.pointer (some ⟨w.heap.size,23,none⟩)) rfl (by kernel_rfl) (by kernel_rfl) (by kernel_rfl) (fun _ _ _ h=>h) (Or.inl ⟨by rfl,fun W hW=>by go_simp⟩) hH ?_
 try simp only [Act.put,List.getElem_toArray,List.getElem_cons_succ,List.getElem_cons_zero,List.setIfInBounds_toArray,List.set_cons_zero,List.set_cons_succ]
 refine wpAnyH_take (i:=12) (v:=.int .i64 nP) rfl (by kernel_rfl) (by kernel_rfl) (by kernel_rfl) (fun _ _ _ h=>h) (Or.inl ⟨by rfl,fun W hW=>by have q:W.cell? ⟨w.heap.size,23,none⟩=some (.int .i64 nP):=Bk.cell hW 23;clear hW;go_simp⟩) hH ?_
 try simp only [Act.put,List.getElem_toArray,List.getElem_cons_succ,List.getElem_cons_zero,List.setIfInBounds_toArray,List.set_cons_zero,List.set_cons_succ]
 refine wpAnyH_ready (rs:=[2]) (by kernel_rfl) (by simp) ?_
 refine AllReadyH.cons rfl (fun KK hK=>?_) AllReadyH.nil
 go_simp
 refine (HT.out _ u0).mono ?_
 rintro e w1 ⟨cst,blt,rfl,ot,ndt,u1⟩
 obtain ⟨T0,T1,rfl⟩:=len_2o (good_Btree.len (good_Btree.own_rep ot))
 have oneT:=good_Btree.one (good_Btree.own_rep ot)
 have U1:=u0.trans u1
 have kB1:=kB.up u1
 have z1:=u1.size
 go_wp2_with fail
 refine hK.out _ _ kB1 (fun hH=>?_)
 clear hK KK
 try simp only [Act.put,List.getElem_toArray,List.getElem_cons_succ,List.getElem_cons_zero,List.setIfInBounds_toArray,List.set_cons_zero,List.set_cons_succ]
 refine wpAnyH_ready (rs:=[5]) (by kernel_rfl) (by simp) ?_
 refine AllReadyH.cons rfl (fun KK hK=>?_) AllReadyH.nil
 go_simp
 refine (HC.out _ U1).mono ?_
 rintro e w2 ⟨csc,blc,rfl,oc,ndc,u2⟩
 obtain ⟨K0,K1,K2,K3,K4,K5,K6,K7,K8,K9,K10,K11,K12,rfl⟩:=len_13o (good_Cache.len (good_Cache.own_rep oc))
 have oneC:=good_Cache.one (good_Cache.own_rep oc)
 have U2:=U1.trans u2
 have kB2:=kB1.up u2
 have z2:=u2.size
 go_wp2_with fail
 refine hK.out _ _ kB2 (fun hH=>?_)
 clear hK KK
 try simp only [Act.put,List.getElem_toArray,List.getElem_cons_succ,List.getElem_cons_zero,List.setIfInBounds_toArray,List.set_cons_zero,List.set_cons_succ]
 refine wpAnyH_ready (rs:=[8]) (by kernel_rfl) (by simp) ?_
 refine AllReadyH.cons rfl (fun KK hK=>?_) AllReadyH.nil
 go_simp
 refine (HJ.out _ U2).mono ?_
 rintro e w3 ⟨csj,blj,rfl,oj,ndj,u3⟩
 obtain ⟨J0,J1,J2,J3,J4,J5,J6,rfl⟩:=len_7o (good_Journal.len (good_Journal.own_rep oj))
 have oneJ:=good_Journal.one (good_Journal.own_rep oj)
 have U3:=U2.trans u3
 have kB3:=kB2.up u3
 have kR3:=((kR.up u1).up u2).up u3
 have z3:=u3.size
 go_wp2_with fail
 refine hK.out _ _ kB3 (fun hH=>?_)
 clear hK KK
 try simp only [Act.put,List.getElem_toArray,List.getElem_cons_succ,List.getElem_cons_zero,List.setIfInBounds_toArray,List.set_cons_zero,List.set_cons_succ]
 refine wpAnyH_take (i:=13) (v:=.agg #[T0,T1,K0,K1,K2,K3,K4,K5,K6,K7,K8,K9,K10,K11,K12,J0,J1,J2,J3,J4,J5,J6,.int .i64 nF,.int .i64 nP]) rfl (by kernel_rfl) (by kernel_rfl) (by kernel_rfl) (fun _ _ _ h=>h) (Or.inl ⟨by rfl,fun W hW=>by go_simp⟩) hH ?_
 try simp only [Act.put,List.getElem_toArray,List.getElem_cons_succ,List.getElem_cons_zero,List.setIfInBounds_toArray,List.set_cons_zero,List.set_cons_succ]
 refine wpAnyH_ready (rs:=[14]) (by kernel_rfl) (by simp) ?_
 refine AllReadyH.cons rfl (fun KK hK=>?_) AllReadyH.nil
 rw [if_pos (by rfl)]
 refine wp_store_mid _ _ _ rfl (w.heap.size+1) 0 #[T0,T1,K0,K1,K2,K3,K4,K5,K6,K7,K8,K9,K10,K11,K12,J0,J1,J2,J3,J4,J5,J6,.int .i64 nF,.int .i64 nP] rfl rfl (kR3.there 0 _ (Nat.le_of_ble_eq_true rfl)) (by kernel_rfl) ?_ ?_
 · refine all_oneCell_toArray (cs:=[T0,T1]++[K0,K1,K2,K3,K4,K5,K6,K7,K8,K9,K10,K11,K12]++[J0,J1,J2,J3,J4,J5,J6]++[.int .i64 nF,.int .i64 nP]) (fun v hv=>?_)
   simp only [List.mem_append] at hv
   rcases hv with ((h | h) | h) | h
   · exact oneT v h
   · exact oneC v h
   · exact oneJ v h
   · simp at h
     rcases h with rfl | rfl <;> rfl
 rw [setCells_wld]
 have btE:=But.sets (g:=w.heap.size+1) [T0,T1,K0,K1,K2,K3,K4,K5,K6,K7,K8,K9,K10,K11,K12,J0,J1,J2,J3,J4,J5,J6,.int .i64 nF,.int .i64 nP] w3 0
 have kE:Bk (setCells w3 (w.heap.size+1) 0 [T0,T1,K0,K1,K2,K3,K4,K5,K6,K7,K8,K9,K10,K11,K12,J0,J1,J2,J3,J4,J5,J6,.int .i64 nF,.int .i64 nP]) (w.heap.size+1) 54 #[T0,T1,K0,K1,K2,K3,K4,K5,K6,K7,K8,K9,K10,K11,K12,J0,J1,J2,J3,J4,J5,J6,.int .i64 nF,.int .i64 nP]:=kR3.setsL [T0,T1,K0,K1,K2,K3,K4,K5,K6,K7,K8,K9,K10,K11,K12,J0,J1,J2,J3,J4,J5,J6,.int .i64 nF,.int .i64 nP] 0
 change KK _ (setCells w3 (w.heap.size+1) 0 [T0,T1,K0,K1,K2,K3,K4,K5,K6,K7,K8,K9,K10,K11,K12,J0,J1,J2,J3,J4,J5,J6,.int .i64 nF,.int .i64 nP])
 generalize setCells w3 (w.heap.size+1) 0 [T0,T1,K0,K1,K2,K3,K4,K5,K6,K7,K8,K9,K10,K11,K12,J0,J1,J2,J3,J4,J5,J6,.int .i64 nF,.int .i64 nP]=W4 at btE kE ⊢
 refine hK.out _ _ (kB3.butM btE (by omega)) (fun hH=>?_)
 clear hK KK
 try simp only [Act.put,List.getElem_toArray,List.getElem_cons_succ,List.getElem_cons_zero,List.setIfInBounds_toArray,List.set_cons_zero,List.set_cons_succ]
 refine wpAnyH_done (by kernel_rfl) ?_ _
 go_wp2_with fail
 refine bodyPost_ret (results_bk kE _ _ Tryz.results41 rfl Tryz.underlying54 rfl (by kernel_rfl)) rfl ?_
 have z4:=btE.size
 have ht4:=good_Btree.own_wide (good_Btree.own_keep ot (fun b hb=>(btE.block b (by have:=good_Btree.own_in ot b hb;omega)).trans ((u2.trans u3).block b (good_Btree.own_in ot b hb).2))) (show w.heap.size≤_ by omega) (Nat.le_refl _)
 have hc4:=good_Cache.own_keep oc (fun b hb=>(btE.block b (by have:=good_Cache.own_in oc b hb;omega)).trans (u3.block b (good_Cache.own_in oc b hb).2))
 have hj4:=good_Journal.own_wide (good_Journal.own_keep oj (fun b hb=>btE.block b (by have:=good_Journal.own_in oj b hb;omega))) (Nat.le_refl _) (show w3.heap.size≤W4.heap.size by omega)
 obtain ⟨bl,ob,nb,hb⟩:=ownBase ht4 hc4 hj4 (by omega) (by omega) (by omega) hF hP ndt ndc ndj
 exact ⟨[T0,T1,K0,K1,K2,K3,K4,K5,K6,K7,K8,K9,K10,K11,K12,J0,J1,J2,J3,J4,J5,J6,.int .i64 nF,.int .i64 nP],bl,rfl,ob,nb,U3.but btE (by omega)⟩
end Go.Proofs.YthdnicfbnihoaaaGreatDoor
