/-
 The flush of a base: the reference's l20Flush,the program's flush,FlushBase of both sides.
-/
import Derived.Test.YthdnicfbnihoaaaGreatDoorM4Oc
import Derived.Test.YthdnicfbnihoaaaGreatDoorM4Bo
set_option maxHeartbeats 16000000
set_option maxRecDepth 100000
namespace Go.Proofs.YthdnicfbnihoaaaGreatDoor
open Go.RowKit
set_option linter.unusedVariables false
set_option linter.unusedSimpArgs false
def zeroBaseO:TBase:=((0,[]),((0,[],[]),(0,0,0,[]),(0,0,0,[]),[],[]),((0,[],[]),0,0,0,0),0,0)
def baseFlush (x:TBase):TBase:=if baseB x=true then (x.1,x.2.1,((x.2.2.1.1.1,flushS x.2.2.1.1.2.1 x.2.2.1.1.2.2,[]),x.2.2.1.2),x.2.2.1.2.2.2.1,x.2.2.2.2) else zeroBaseO
theorem own_zeroBaseO (W:World) (lo hi:Nat):shBase.own W lo hi [.int .i64 0,.slice none 0 0,.int .i64 0,.slice none 0 0,.slice none 0 0,.int .i64 0,.int .i64 0,.int .i64 0,.slice none 0 0,.int .i64 0,.int .i64 0,.int .i64 0,.slice none 0 0,.slice none 0 0,.slice none 0 0,.int .i64 0,.slice none 0 0,.slice none 0 0,.int .i64 0,.int .i64 0,.int .i64 0,.int .i64 0,.int .i64 0,.int .i64 0] zeroBaseO []:=by
 have h:=mkOBase (w:=W) (lo:=lo) (hi:=hi) (x:=zeroBaseO) (A1:=none) (c1:=0) (bl1:=[]) (A3:=none) (c3:=0) (bl3:=[]) (A4:=none) (c4:=0) (bl4:=[]) (A8:=none) (c8:=0) (bl8:=[]) (A12:=none) (c12:=0) (bl12:=[]) (A13:=none) (c13:=0) (bl13:=[]) (A14:=none) (c14:=0) (bl14:=[]) (A16:=none) (c16:=0) (bl16:=[]) (A17:=none) (c17:=0) (bl17:=[]) ⟨by decide,by decide⟩ (SO.nil _ _ _) ⟨by decide,by decide⟩ (SO.nil _ _ _) (SO.nil _ _ _) ⟨by decide,by decide⟩ ⟨by decide,by decide⟩ ⟨by decide,by decide⟩ (SO.nil _ _ _) ⟨by decide,by decide⟩ ⟨by decide,by decide⟩ ⟨by decide,by decide⟩ (SO.nil _ _ _) (SO.nil _ _ _) (SO.nil _ _ _) ⟨by decide,by decide⟩ (SO.nil _ _ _) (SO.nil _ _ _) ⟨by decide,by decide⟩ ⟨by decide,by decide⟩ ⟨by decide,by decide⟩ ⟨by decide,by decide⟩ ⟨by decide,by decide⟩ ⟨by decide,by decide⟩
 simpa [zeroBaseO] using h
theorem base_puts {x:TBase} (h:baseB x=true):∀p∈x.2.2.1.1.2.2,0≤p.1∧p.1<x.2.2.1.1.2.1.length:=by
 simp only [baseB,Bool.and_eq_true] at h
 exact puts_in (journal_disk h.1.1.1.1.2)
theorem open_base {w:World} {lo hi:Nat} {cs:List Value} {x:TBase} (h:shBase.rep w lo hi cs x):∃ct cc cj,cs=ct++(cc++(cj++([.int .i64 x.2.2.2.1]++[.int .i64 x.2.2.2.2])))∧shBtree.rep w lo hi ct x.1∧shCache.rep w lo hi cc x.2.1∧shJournal.rep w lo hi cj x.2.2.1∧I64 x.2.2.2.1∧I64 x.2.2.2.2:=by
 obtain ⟨ct,q1,rfl,ht,h1⟩:=open_P h
 obtain ⟨cc,q2,rfl,hc,h2⟩:=open_P h1
 obtain ⟨cj,q3,rfl,hj,h3⟩:=open_P h2
 obtain ⟨cf,cp,rfl,hf,hp⟩:=open_P h3
 obtain ⟨rfl,bf⟩:=hf
 obtain ⟨rfl,bp⟩:=hp
 exact ⟨ct,cc,cj,rfl,ht,hc,hj,bf,bp⟩
theorem openO_base {w:World} {lo hi:Nat} {cs:List Value} {x:TBase} {bl:List Nat} (h:shBase.own w lo hi cs x bl):∃ct cc cj b1 b2 b3,cs=ct++(cc++(cj++([.int .i64 x.2.2.2.1]++[.int .i64 x.2.2.2.2])))∧bl=b1++(b2++b3)∧shBtree.own w lo hi ct x.1 b1∧shCache.own w lo hi cc x.2.1 b2∧shJournal.own w lo hi cj x.2.2.1 b3∧I64 x.2.2.2.1∧I64 x.2.2.2.2:=by
 obtain ⟨ct,q1,b1,c1,rfl,rfl,ht,h1⟩:=openO_P h
 obtain ⟨cc,q2,b2,c2,rfl,rfl,hc,h2⟩:=openO_P h1
 obtain ⟨cj,q3,b3,c3,rfl,rfl,hj,h3⟩:=openO_P h2
 obtain ⟨cf,cp,b4,c4,rfl,rfl,hf,hp⟩:=openO_P h3
 obtain ⟨⟨rfl,bf⟩,rfl⟩:=hf
 obtain ⟨⟨rfl,bp⟩,rfl⟩:=hp
 exact ⟨ct,cc,cj,b1,b2,b3,rfl,by simp,ht,hc,hj,bf,bp⟩
theorem mkO_base {W:World} {lo hi:Nat} {ct cc cj:List Value} {xt:TBtree} {xc:TCache} {xj:TJournal} {nF nP:Int} {b1 b2 b3:List Nat} (ht:shBtree.own W lo hi ct xt b1) (hc:shCache.own W lo hi cc xc b2) (hj:shJournal.own W lo hi cj xj b3) (hF:I64 nF) (hP:I64 nP):shBase.own W lo hi (ct++(cc++(cj++([.int .i64 nF]++[.int .i64 nP])))) (xt,xc,xj,nF,nP) (b1++(b2++b3)):=by
 have hf0:shI.own W lo hi [.int .i64 nF] nF []:=⟨⟨rfl,hF⟩,rfl⟩
 have hp0:shI.own W lo hi [.int .i64 nP] nP []:=⟨⟨rfl,hP⟩,rfl⟩
 have h1:=mkO_P (a:=shI) (b:=shI) good_I (x:=(nF,nP)) hf0 hp0
 have h2:=mkO_P (a:=shJournal) (b:=shP shI shI) good_Journal (x:=(xj,nF,nP)) hj h1
 have h3:=mkO_P (a:=shCache) (b:=shP shJournal (shP shI shI)) good_Cache (x:=(xc,xj,nF,nP)) hc h2
 have h4:=mkO_P (a:=shBtree) (b:=shP shCache (shP shJournal (shP shI shI))) good_Btree (x:=(xt,xc,xj,nF,nP)) ht h3
 have h5:shBase.own W lo hi _ (xt,xc,xj,nF,nP) _:=h4
 simpa using h5
theorem base_szs {x:TBase} (hn:shBase.sz x≤1048576):shBtree.sz x.1≤1048576∧shCache.sz x.2.1≤1048576∧shJournal.sz x.2.2.1≤1048576:=by
 have e:shBase.sz x=shBtree.sz x.1+(shCache.sz x.2.1+(shJournal.sz x.2.2.1+(0+0))):=rfl
 omega
theorem c_l20Own (v:Value) (x:TBase) (w:World) (h:AV shBase w v x) (hn:shBase.sz x≤1048576):Calls Tryz.prog 41 #[v] w (ToV shBase x w):=by
 obtain ⟨cs,rfl,h⟩:=h
 obtain ⟨n1,n2,n3⟩:=base_szs hn
 obtain ⟨ct,cc,cj,rfl,ht,hc,hj,bf,bp⟩:=open_base h
 obtain ⟨t0,t1,rfl⟩:=len_2o (good_Btree.len ht)
 obtain ⟨k0,k1,k2,k3,k4,k5,k6,k7,k8,k9,k10,k11,k12,rfl⟩:=len_13o (good_Cache.len hc)
 obtain ⟨j0,j1,j2,j3,j4,j5,j6,rfl⟩:=len_7o (good_Journal.len hj)
 exact copy_base_spec (xt:=x.1) (xc:=x.2.1) (xj:=x.2.2.1) bf bp (Lib.hid fun W u=>c_l16Own _ x.1 W (AV.up good_Btree ⟨_,rfl,ht⟩ u) n1) (Lib.hid fun W u=>c_l18Own _ x.2.1 W (AV.up good_Cache ⟨_,rfl,hc⟩ u) n2) (Lib.hid fun W u=>c_l19Own _ x.2.2.1 W (AV.up good_Journal ⟨_,rfl,hj⟩ u) n3)
theorem ptr_journal {x:TJournal} {w:World} {e:Ending} {w':World} (h:e=.returned (.pointer (some ⟨w.heap.size,0,none⟩))∧∃D1 d1 bl1 D2 d2 bl2,Bk w' w.heap.size 52 #[.int .i64 x.1.1,.slice D1 x.1.2.1.length d1,.slice D2 x.1.2.2.length d2,.int .i64 x.2.1,.int .i64 x.2.2.1,.int .i64 x.2.2.2.1,.int .i64 x.2.2.2.2]∧SO shS w' (w.heap.size+1) w'.heap.size D1 d1 x.1.2.1 bl1∧SO shPut w' (w.heap.size+1) w'.heap.size D2 d2 x.1.2.2 bl2∧(bl1++bl2).Nodup∧Up w w') (b0:I64 x.1.1) (b3:I64 x.2.1) (b4:I64 x.2.2.1) (b5:I64 x.2.2.2.1) (b6:I64 x.2.2.2.2):ToPtr shJournal 52 x w e w':=by
 obtain ⟨rfl,D1,d1,bl1,D2,d2,bl2,k,s1,s2,nd,u⟩:=h
 refine ⟨w.heap.size,_,bl1++bl2,rfl,k,mkOJournal b0 (s1.wide good_S (by omega) (Nat.le_refl _)) (s2.wide good_Put (by omega) (Nat.le_refl _)) b3 b4 b5 b6,nd,fun hm=>?_,Nat.le_refl _,u⟩
 rcases List.mem_append.1 hm with h | h
 · have:=(s1.in_ good_S _ h).1
   omega
 · have:=(s2.in_ good_Put _ h).1
   omega
theorem c_copyBase (v:Value) (x:TBase) (w:World) (h:AV shBase w v x) (hn:shBase.sz x≤1048576):Calls Tryz.prog 20 #[v] w (ToPtr shBase 54 x w):=by
 obtain ⟨cs,rfl,h⟩:=h
 obtain ⟨n1,n2,n3⟩:=base_szs hn
 obtain ⟨ct,cc,cj,rfl,ht,hc,hj,bf,bp⟩:=open_base h
 obtain ⟨_,_,_,_,_,b0,_,_,b3,b4,b5,b6⟩:=openJournal hj
 obtain ⟨t0,t1,rfl⟩:=len_2o (good_Btree.len ht)
 obtain ⟨k0,k1,k2,k3,k4,k5,k6,k7,k8,k9,k10,k11,k12,rfl⟩:=len_13o (good_Cache.len hc)
 obtain ⟨j0,j1,j2,j3,j4,j5,j6,rfl⟩:=len_7o (good_Journal.len hj)
 exact copy_base_impl (xt:=x.1) (xc:=x.2.1) (xj:=x.2.2.1) bf bp (Lib.hid fun W u=>c_copyBtree _ x.1 W (AV.up good_Btree ⟨_,rfl,ht⟩ u) n1) (Lib.hid fun W u=>c_copyCache _ x.2.1 W (AV.up good_Cache ⟨_,rfl,hc⟩ u) n2) (Lib.hid fun W u=>(c_copyJournal _ x.2.2.1 W (AV.up good_Journal ⟨_,rfl,hj⟩ u) n3).mono fun _ _ h=>ptr_journal h b0 b3 b4 b5 b6)
theorem base_flush_spec {x:TBase} {w:World} {t0 t1 k0 k1 k2 k3 k4 k5 k6 k7 k8 k9 k10 k11 k12 j0 j1 j2 j3 j4 j5 j6:Value} (HO:Hid (∀W,Up w W→Calls Tryz.prog 41 #[.agg #[t0,t1,k0,k1,k2,k3,k4,k5,k6,k7,k8,k9,k10,k11,k12,j0,j1,j2,j3,j4,j5,j6,.int .i64 x.2.2.2.1,.int .i64 x.2.2.2.2]] W (ToV shBase x W)))
   (HF:Hid (∀W v,AV shJournal W v x.2.2.1→Calls Tryz.prog 42 #[v] W (ToV shJournal ((x.2.2.1.1.1,flushS x.2.2.1.1.2.1 x.2.2.1.1.2.2,[]),x.2.2.1.2) W))) :
   Calls Tryz.prog 15 #[.agg #[t0,t1,k0,k1,k2,k3,k4,k5,k6,k7,k8,k9,k10,k11,k12,j0,j1,j2,j3,j4,j5,j6,.int .i64 x.2.2.2.1,.int .i64 x.2.2.2.2]] w (ToV shBase (x.1,x.2.1,((x.2.2.1.1.1,flushS x.2.2.1.1.2.1 x.2.2.1.1.2.2,[]),x.2.2.1.2),x.2.2.1.2.2.2.1,x.2.2.2.2) w):=by
 have u0:Up w ((w.alloc (.cells #[t0,t1,k0,k1,k2,k3,k4,k5,k6,k7,k8,k9,k10,k11,k12,j0,j1,j2,j3,j4,j5,j6,.int .i64 x.2.2.2.1,.int .i64 x.2.2.2.2] 54)).alloc (.cells #[.int .i64 0,.slice none 0 0,.int .i64 0,.slice none 0 0,.slice none 0 0,.int .i64 0,.int .i64 0,.int .i64 0,.slice none 0 0,.int .i64 0,.int .i64 0,.int .i64 0,.slice none 0 0,.slice none 0 0,.slice none 0 0,.int .i64 0,.slice none 0 0,.slice none 0 0,.int .i64 0,.int .i64 0,.int .i64 0,.int .i64 0,.int .i64 0,.int .i64 0] 54)):=((Up.refl w).alloc _).alloc _
 have kB:Bk ((w.alloc (.cells #[t0,t1,k0,k1,k2,k3,k4,k5,k6,k7,k8,k9,k10,k11,k12,j0,j1,j2,j3,j4,j5,j6,.int .i64 x.2.2.2.1,.int .i64 x.2.2.2.2] 54)).alloc (.cells #[.int .i64 0,.slice none 0 0,.int .i64 0,.slice none 0 0,.slice none 0 0,.int .i64 0,.int .i64 0,.int .i64 0,.slice none 0 0,.int .i64 0,.int .i64 0,.int .i64 0,.slice none 0 0,.slice none 0 0,.slice none 0 0,.int .i64 0,.slice none 0 0,.slice none 0 0,.int .i64 0,.int .i64 0,.int .i64 0,.int .i64 0,.int .i64 0,.int .i64 0] 54)) w.heap.size 54 #[t0,t1,k0,k1,k2,k3,k4,k5,k6,k7,k8,k9,k10,k11,k12,j0,j1,j2,j3,j4,j5,j6,.int .i64 x.2.2.2.1,.int .i64 x.2.2.2.2]:=(Bk.new w _ _).alloc _
 have kR:Bk ((w.alloc (.cells #[t0,t1,k0,k1,k2,k3,k4,k5,k6,k7,k8,k9,k10,k11,k12,j0,j1,j2,j3,j4,j5,j6,.int .i64 x.2.2.2.1,.int .i64 x.2.2.2.2] 54)).alloc (.cells #[.int .i64 0,.slice none 0 0,.int .i64 0,.slice none 0 0,.slice none 0 0,.int .i64 0,.int .i64 0,.int .i64 0,.slice none 0 0,.int .i64 0,.int .i64 0,.int .i64 0,.slice none 0 0,.slice none 0 0,.slice none 0 0,.int .i64 0,.slice none 0 0,.slice none 0 0,.int .i64 0,.int .i64 0,.int .i64 0,.int .i64 0,.int .i64 0,.int .i64 0] 54)) (w.heap.size+1) 54 #[.int .i64 0,.slice none 0 0,.int .i64 0,.slice none 0 0,.slice none 0 0,.int .i64 0,.int .i64 0,.int .i64 0,.slice none 0 0,.int .i64 0,.int .i64 0,.int .i64 0,.slice none 0 0,.slice none 0 0,.slice none 0 0,.int .i64 0,.slice none 0 0,.slice none 0 0,.int .i64 0,.int .i64 0,.int .i64 0,.int .i64 0,.int .i64 0,.int .i64 0]:=by simpa using Bk.new (w.alloc (.cells #[t0,t1,k0,k1,k2,k3,k4,k5,k6,k7,k8,k9,k10,k11,k12,j0,j1,j2,j3,j4,j5,j6,.int .i64 x.2.2.2.1,.int .i64 x.2.2.2.2] 54)) 54 #[.int .i64 0,.slice none 0 0,.int .i64 0,.slice none 0 0,.slice none 0 0,.int .i64 0,.int .i64 0,.int .i64 0,.slice none 0 0,.int .i64 0,.int .i64 0,.int .i64 0,.slice none 0 0,.slice none 0 0,.slice none 0 0,.int .i64 0,.slice none 0 0,.slice none 0 0,.int .i64 0,.int .i64 0,.int .i64 0,.int .i64 0,.int .i64 0,.int .i64 0]
 have zz:((w.alloc (.cells #[t0,t1,k0,k1,k2,k3,k4,k5,k6,k7,k8,k9,k10,k11,k12,j0,j1,j2,j3,j4,j5,j6,.int .i64 x.2.2.2.1,.int .i64 x.2.2.2.2] 54)).alloc (.cells #[.int .i64 0,.slice none 0 0,.int .i64 0,.slice none 0 0,.slice none 0 0,.int .i64 0,.int .i64 0,.int .i64 0,.slice none 0 0,.int .i64 0,.int .i64 0,.int .i64 0,.slice none 0 0,.slice none 0 0,.slice none 0 0,.int .i64 0,.slice none 0 0,.slice none 0 0,.int .i64 0,.int .i64 0,.int .i64 0,.int .i64 0,.int .i64 0,.int .i64 0] 54)).heap.size=w.heap.size+2:=by simp
 go_enter Tryz.func15,Tryz.ntmps15
 go_upto_region 1 with fail
 generalize hW0:((w.alloc (.cells #[t0,t1,k0,k1,k2,k3,k4,k5,k6,k7,k8,k9,k10,k11,k12,j0,j1,j2,j3,j4,j5,j6,.int .i64 x.2.2.2.1,.int .i64 x.2.2.2.2] 54)).alloc (.cells #[.int .i64 0,.slice none 0 0,.int .i64 0,.slice none 0 0,.slice none 0 0,.int .i64 0,.int .i64 0,.int .i64 0,.slice none 0 0,.int .i64 0,.int .i64 0,.int .i64 0,.slice none 0 0,.slice none 0 0,.slice none 0 0,.int .i64 0,.slice none 0 0,.slice none 0 0,.int .i64 0,.int .i64 0,.int .i64 0,.int .i64 0,.int .i64 0,.int .i64 0] 54))=W0 at u0 kB kR zz ⊢
 clear hW0
 go_wp2_with (refine wpList_load_bk [t0,t1,k0,k1,k2,k3,k4,k5,k6,k7,k8,k9,k10,k11,k12,j0,j1,j2,j3,j4,j5,j6,.int .i64 x.2.2.2.1,.int .i64 x.2.2.2.2] kB rfl Tryz.underlying54 rfl (by kernel_rfl) (by rfl) ?_)
 refine (HO.out _ u0).mono ?_
 rintro e w1 ⟨csb,blb,rfl,ob,ndb,u1⟩
 obtain ⟨ct,cc,cj,b1,b2,b3,rfl,rfl,ot,oc,oj,bf,bp⟩:=openO_base ob
 clear ob
 obtain ⟨T0,T1,rfl⟩:=len_2o (good_Btree.len (good_Btree.own_rep ot))
 have oneT:=good_Btree.one (good_Btree.own_rep ot)
 obtain ⟨K0,K1,K2,K3,K4,K5,K6,K7,K8,K9,K10,K11,K12,rfl⟩:=len_13o (good_Cache.len (good_Cache.own_rep oc))
 have oneC:=good_Cache.one (good_Cache.own_rep oc)
 obtain ⟨D1,d1,bl1,D2,d2,bl2,rfl,rfl,i0,s1,s2,i3,i4,i5,i6⟩:=openOJournal oj
 have n12:(b1++b2).Nodup:=(List.nodup_append.1 (by simpa [List.append_assoc] using ndb:((b1++b2)++(bl1++bl2)).Nodup)).1
 have hone2:([T0,T1,K0,K1,K2,K3,K4,K5,K6,K7,K8,K9,K10,K11,K12,.int .i64 x.2.2.1.1.1,.slice D1 x.2.2.1.1.2.1.length d1,.slice D2 x.2.2.1.1.2.2.length d2,.int .i64 x.2.2.1.2.1,.int .i64 x.2.2.1.2.2.1,.int .i64 x.2.2.1.2.2.2.1,.int .i64 x.2.2.1.2.2.2.2,.int .i64 x.2.2.2.1,.int .i64 x.2.2.2.2]:List Value).all (·.oneCell')=true:=by
   rw [List.all_eq_true]
   intro v hv
   have hv':v∈[T0,T1]++[K0,K1,K2,K3,K4,K5,K6,K7,K8,K9,K10,K11,K12]++[.int .i64 x.2.2.1.1.1,.slice D1 x.2.2.1.1.2.1.length d1,.slice D2 x.2.2.1.1.2.2.length d2,.int .i64 x.2.2.1.2.1,.int .i64 x.2.2.1.2.2.1,.int .i64 x.2.2.1.2.2.2.1,.int .i64 x.2.2.1.2.2.2.2,.int .i64 x.2.2.2.1,.int .i64 x.2.2.2.2]:=hv
   simp only [List.mem_append] at hv'
   rcases hv' with (h | h) | h
   · exact oneT v h
   · exact oneC v h
   · simp only [List.mem_cons,List.mem_nil_iff,or_false,List.not_mem_nil] at h
     rcases h with rfl | rfl | rfl | rfl | rfl | rfl | rfl | rfl | rfl <;> rfl
 have z1:=u1.size
 go_upto_region 2 with (refine wpList_store_bk [T0,T1,K0,K1,K2,K3,K4,K5,K6,K7,K8,K9,K10,K11,K12,.int .i64 x.2.2.1.1.1,.slice D1 x.2.2.1.1.2.1.length d1,.slice D2 x.2.2.1.1.2.2.length d2,.int .i64 x.2.2.1.2.1,.int .i64 x.2.2.1.2.2.1,.int .i64 x.2.2.1.2.2.2.1,.int .i64 x.2.2.1.2.2.2.2,.int .i64 x.2.2.2.1,.int .i64 x.2.2.2.2] (Bk.new _ _ _) rfl rfl (by kernel_rfl) hone2 (by exact Nat.le_of_ble_eq_true rfl) ?_;intro WO bO kO;rw [putL_allO _ [T0,T1,K0,K1,K2,K3,K4,K5,K6,K7,K8,K9,K10,K11,K12,.int .i64 x.2.2.1.1.1,.slice D1 x.2.2.1.1.2.1.length d1,.slice D2 x.2.2.1.1.2.2.length d2,.int .i64 x.2.2.1.2.1,.int .i64 x.2.2.1.2.2.1,.int .i64 x.2.2.1.2.2.2.1,.int .i64 x.2.2.1.2.2.2.2,.int .i64 x.2.2.2.1,.int .i64 x.2.2.2.2] (by rfl)] at kO)
 have uO:Up w1 WO:=((Up.refl w1).alloc _).but bO (Nat.le_refl _)
 have zO:WO.heap.size=w1.heap.size+1:=by rw [bO.size];simp
 have kR1:=(kR.up u1).up uO
 have ojO:=own_up good_Journal oj uO
 have avJ:AV shJournal WO (.agg #[.int .i64 x.2.2.1.1.1,.slice D1 x.2.2.1.1.2.1.length d1,.slice D2 x.2.2.1.1.2.2.length d2,.int .i64 x.2.2.1.2.1,.int .i64 x.2.2.1.2.2.1,.int .i64 x.2.2.1.2.2.2.1,.int .i64 x.2.2.1.2.2.2.2]) x.2.2.1:=⟨_,rfl,good_Journal.wide (good_Journal.own_rep ojO) (Nat.zero_le _) (Nat.le_refl _)⟩
 have otO:=good_Btree.own_keep ot (fun b hb=>uO.block b (good_Btree.own_in ot b hb).2)
 have ocO:=good_Cache.own_keep oc (fun b hb=>uO.block b (good_Cache.own_in oc b hb).2)
 have CF:=Lib.hid (HF.out WO _ avJ)
 clear bO
 go_wp2_with (refine wpList_load_bk [.int .i64 x.2.2.1.1.1,.slice D1 x.2.2.1.1.2.1.length d1,.slice D2 x.2.2.1.1.2.2.length d2,.int .i64 x.2.2.1.2.1,.int .i64 x.2.2.1.2.2.1,.int .i64 x.2.2.1.2.2.2.1,.int .i64 x.2.2.1.2.2.2.2] kO rfl Tryz.underlying52 rfl (by kernel_rfl) (by rfl) ?_)
 refine CF.out.mono ?_
 rintro e w2 ⟨csj,blj,rfl,oJ,ndJ,u2⟩
 obtain ⟨E1,e1,bl3,E2,e2,bl4,rfl,rfl,_,_,_,_,_,_,_⟩:=openOJournal oJ
 have kO2:=kO.up u2
 have kR2:=kR1.up u2
 have z2:=u2.size
 have hFL:(flushS x.2.2.1.1.2.1 x.2.2.1.1.2.2).length=x.2.2.1.1.2.1.length:=flushS_len _ _
 dsimp only [List.length_nil] at oJ ⊢
 rw [hFL] at oJ ⊢
 have HFL:=Lib.hid hFL
 clear hFL
 go_upto_region 3 with (refine wpList_store_bk [.int .i64 x.2.2.1.1.1,.slice E1 x.2.2.1.1.2.1.length e1,.slice E2 0 e2,.int .i64 x.2.2.1.2.1,.int .i64 x.2.2.1.2.2.1,.int .i64 x.2.2.1.2.2.2.1,.int .i64 x.2.2.1.2.2.2.2] kO2 rfl rfl (by kernel_rfl) (by rfl) (by exact Nat.le_of_ble_eq_true rfl) ?_;intro W3 b3' k3)
 have k3':Bk W3 w1.heap.size 54 #[T0,T1,K0,K1,K2,K3,K4,K5,K6,K7,K8,K9,K10,K11,K12,.int .i64 x.2.2.1.1.1,.slice E1 x.2.2.1.1.2.1.length e1,.slice E2 0 e2,.int .i64 x.2.2.1.2.1,.int .i64 x.2.2.1.2.2.1,.int .i64 x.2.2.1.2.2.2.1,.int .i64 x.2.2.1.2.2.2.2,.int .i64 x.2.2.2.1,.int .i64 x.2.2.2.2]:=k3
 have kR3:=kR2.butM b3' (by omega)
 have g20:W3.cell? ⟨w1.heap.size,20,none⟩=some (.int .i64 x.2.2.1.2.2.2.1):=k3'.cell 20
 have g22:W3.cell? ⟨w1.heap.size,22,none⟩=some (.int .i64 x.2.2.2.1):=k3'.cell 22
 have f22:=k3'.frozen 22
 go_upto_region 4 with fail
 have k4:Bk (W3.setCell ⟨w1.heap.size,22,none⟩ (.int .i64 x.2.2.1.2.2.2.1)) w1.heap.size 54 #[T0,T1,K0,K1,K2,K3,K4,K5,K6,K7,K8,K9,K10,K11,K12,.int .i64 x.2.2.1.1.1,.slice E1 x.2.2.1.1.2.1.length e1,.slice E2 0 e2,.int .i64 x.2.2.1.2.1,.int .i64 x.2.2.1.2.2.1,.int .i64 x.2.2.1.2.2.2.1,.int .i64 x.2.2.1.2.2.2.2,.int .i64 x.2.2.1.2.2.2.1,.int .i64 x.2.2.2.2]:=k3'.set 22 (.int .i64 x.2.2.1.2.2.2.1)
 have b4':=But.set W3 w1.heap.size 22 (.int .i64 x.2.2.1.2.2.2.1)
 clear g20 g22 f22
 generalize W3.setCell ⟨w1.heap.size,22,none⟩ (.int .i64 x.2.2.1.2.2.2.1)=W4 at k4 b4' ⊢
 have kR4:=kR3.butM b4' (by omega)
 have hone4:([T0,T1,K0,K1,K2,K3,K4,K5,K6,K7,K8,K9,K10,K11,K12,.int .i64 x.2.2.1.1.1,.slice E1 x.2.2.1.1.2.1.length e1,.slice E2 0 e2,.int .i64 x.2.2.1.2.1,.int .i64 x.2.2.1.2.2.1,.int .i64 x.2.2.1.2.2.2.1,.int .i64 x.2.2.1.2.2.2.2,.int .i64 x.2.2.1.2.2.2.1,.int .i64 x.2.2.2.2]:List Value).all (·.oneCell')=true:=by
   rw [List.all_eq_true]
   intro v hv
   have hv':v∈[T0,T1]++[K0,K1,K2,K3,K4,K5,K6,K7,K8,K9,K10,K11,K12]++[.int .i64 x.2.2.1.1.1,.slice E1 x.2.2.1.1.2.1.length e1,.slice E2 0 e2,.int .i64 x.2.2.1.2.1,.int .i64 x.2.2.1.2.2.1,.int .i64 x.2.2.1.2.2.2.1,.int .i64 x.2.2.1.2.2.2.2,.int .i64 x.2.2.1.2.2.2.1,.int .i64 x.2.2.2.2]:=hv
   simp only [List.mem_append] at hv'
   rcases hv' with (h | h) | h
   · exact oneT v h
   · exact oneC v h
   · simp only [List.mem_cons,List.mem_nil_iff,or_false,List.not_mem_nil] at h
     rcases h with rfl | rfl | rfl | rfl | rfl | rfl | rfl | rfl | rfl <;> rfl
 go_wp2_with (first | (refine wpList_load_bk [T0,T1,K0,K1,K2,K3,K4,K5,K6,K7,K8,K9,K10,K11,K12,.int .i64 x.2.2.1.1.1,.slice E1 x.2.2.1.1.2.1.length e1,.slice E2 0 e2,.int .i64 x.2.2.1.2.1,.int .i64 x.2.2.1.2.2.1,.int .i64 x.2.2.1.2.2.2.1,.int .i64 x.2.2.1.2.2.2.2,.int .i64 x.2.2.1.2.2.2.1,.int .i64 x.2.2.2.2] k4 rfl Tryz.underlying54 rfl (by kernel_rfl) (by rfl) ?_) | (refine wpList_store_bk [T0,T1,K0,K1,K2,K3,K4,K5,K6,K7,K8,K9,K10,K11,K12,.int .i64 x.2.2.1.1.1,.slice E1 x.2.2.1.1.2.1.length e1,.slice E2 0 e2,.int .i64 x.2.2.1.2.1,.int .i64 x.2.2.1.2.2.1,.int .i64 x.2.2.1.2.2.2.1,.int .i64 x.2.2.1.2.2.2.2,.int .i64 x.2.2.1.2.2.2.1,.int .i64 x.2.2.2.2] kR4 rfl rfl (by kernel_rfl) hone4 (by exact Nat.le_of_ble_eq_true rfl) ?_;intro W5 b5 k5;rw [putL_allO _ [T0,T1,K0,K1,K2,K3,K4,K5,K6,K7,K8,K9,K10,K11,K12,.int .i64 x.2.2.1.1.1,.slice E1 x.2.2.1.1.2.1.length e1,.slice E2 0 e2,.int .i64 x.2.2.1.2.1,.int .i64 x.2.2.1.2.2.1,.int .i64 x.2.2.1.2.2.2.1,.int .i64 x.2.2.1.2.2.2.2,.int .i64 x.2.2.1.2.2.2.1,.int .i64 x.2.2.2.2] (by rfl)] at k5))
 refine bodyPost_ret (results_bk k5 _ _ Tryz.results15 rfl Tryz.underlying54 rfl (by kernel_rfl)) rfl ?_
 have bb:∀y,y≠w1.heap.size→y≠w.heap.size+1→W5.heap[y]?=w2.heap[y]?:=fun y h1 h2=>((b5.block y h2).trans (b4'.block y h1)).trans (b3'.block y h1)
 have zW:W5.heap.size=w2.heap.size:=by rw [b5.size,b4'.size,b3'.size]
 have ot5:=good_Btree.own_wide (good_Btree.own_keep otO (fun b hb=>by have hi:=good_Btree.own_in ot b hb;exact (bb b (by omega) (by omega)).trans (u2.block b (by omega)))) (show w.heap.size≤_ by omega) (show w1.heap.size≤W5.heap.size by omega)
 have oc5:=good_Cache.own_wide (good_Cache.own_keep ocO (fun b hb=>by have hi:=good_Cache.own_in oc b hb;exact (bb b (by omega) (by omega)).trans (u2.block b (by omega)))) (show w.heap.size≤_ by omega) (show w1.heap.size≤W5.heap.size by omega)
 have oj5:=good_Journal.own_wide (good_Journal.own_keep oJ (fun b hb=>by have hi:=good_Journal.own_in oJ b hb;exact bb b (by omega) (by omega))) (show w.heap.size≤_ by omega) (show w2.heap.size≤W5.heap.size by omega)
 have hob:=mkO_base ot5 oc5 oj5 i5 bp
 refine ⟨[T0,T1,K0,K1,K2,K3,K4,K5,K6,K7,K8,K9,K10,K11,K12,.int .i64 x.2.2.1.1.1,.slice E1 x.2.2.1.1.2.1.length e1,.slice E2 0 e2,.int .i64 x.2.2.1.2.1,.int .i64 x.2.2.1.2.2.1,.int .i64 x.2.2.1.2.2.2.1,.int .i64 x.2.2.1.2.2.2.2,.int .i64 x.2.2.1.2.2.2.1,.int .i64 x.2.2.2.2],_,rfl,hob,?_,((((u0.trans u1).trans uO).trans u2).but b3' (by omega)).but b4' (by omega) |>.but b5 (by omega)⟩
 rw [← List.append_assoc]
 refine List.nodup_append.2 ⟨n12,ndJ,?_⟩
 rintro y hy z hz rfl
 have h2:=good_Journal.own_in oJ y hz
 rcases List.mem_append.1 hy with h | h
 · have:=good_Btree.own_in ot y h
   omega
 · have:=good_Cache.own_in oc y h
   omega
end Go.Proofs.YthdnicfbnihoaaaGreatDoor
