/-
 The walk of FnExactFlushBase: for every input it returns true.
-/
import Derived.Test.YthdnicfbnihoaaaGreatDoorM4Of
import Derived.Test.YthdnicfbnihoaaaGreatDoorM4Lk
import Derived.Test.YthdnicfbnihoaaaGreatDoorM4Lb
import Derived.Test.YthdnicfbnihoaaaGreatDoorM4J
import Derived.Test.YthdnicfbnihoaaaGreatDoorM4Le
import Derived.Test.YthdnicfbnihoaaaGreatDoorM4Lm
import Derived.Test.YthdnicfbnihoaaaGreatDoorM4M
import Derived.Deep.RegionHeld3
set_option maxHeartbeats 16000000
set_option maxRecDepth 100000
namespace Go.Proofs.YthdnicfbnihoaaaGreatDoor
open Go.RowKit
set_option linter.unusedVariables false
set_option linter.unusedSimpArgs false
theorem putL_allB:∀(l cs:List Value),l.length=cs.length→putL l 0 cs=cs
 | [],[],_=>rfl
 | [],_::_,h=>by simp at h
 | _::_,[],h=>by simp at h
 | x::l,c::cs,h=>by rw [putL,putL_allB l cs (by simpa using h)]
theorem w0_FnExactFlushBase (w:World) (v0:Value) (x0:TBase) (h0:AV shBase w v0 x0) (htab:Tab w) (hmx:MaxL w) :
   Calls Tryz.prog 3 #[v0] w fun e w'=>e=.returned (.bool true)∧Up w w':=by
 have hv0:=h0
 obtain ⟨cs0,rfl,h0⟩:=h0
 have l0:cs0.length=24:=by obtain ⟨_,_,_,_,_,_,_,_,_,_,_,_,_,_,_,_,_,_,rfl,_⟩:=openBase h0;rfl
 clear h0
 have i0:(Tryz.prog.info? 38).map (·.size)=some cs0.length:=by rw [l0];kernel_rfl
 have ka0_0:Bk (w.alloc (.cells cs0.toArray 38)) (w.heap.size) 38 cs0.toArray:=by simpa using Bk.new w 38 cs0.toArray
 have uu0:Up w (w.alloc (.cells cs0.toArray 38)):=(Up.refl w).alloc _
 have zs0:=uu0.size
 have zs0b:(w.alloc (.cells cs0.toArray 38)).heap.size=w.heap.size+1:=by simp
 go_enter Tryz.func3,Tryz.ntmps3
 go_wp2_with (refine wpList_load_bk cs0 ka0_0 rfl Tryz.underlying38 rfl i0 (by simp) ?_)
 refine (c_szBase _ x0 _ _ (hv0.up good_Base uu0) (by omega) (by omega)).mono ?_
 rintro e w1 ⟨rfl,u1⟩
 have uu1:=uu0.trans u1
 have zs1:=u1.size
 have ka0_1:=ka0_0.up u1
 by_cases q0:¬ ((shBase.sz x0:Nat):Int)≤1048576
 · rw [szR_no (by omega)]
   go_wp2_with fail
   go_ret
   exact ⟨rfl,uu1⟩
 replace q0:=Decidable.of_not_not q0
 rw [szR_yes q0]
 have zza0_1:=ka0_1.lt
 clear u1
 go_wp2_with (refine wpList_load_bk cs0 ka0_1 rfl Tryz.underlying38 rfl i0 (by simp) ?_)
 have hn0:shBase.sz x0≤1048576:=by omega
 refine (c_toBase _ x0 _ (hv0.up good_Base uu1) hn0).mono ?_
 rintro e w2 ⟨csp0,blp0,rfl,op0,ndp0,u2⟩
 have lp0:csp0.length=24:=good_Base.len (good_Base.own_rep op0)
 have onep0:=good_Base.one (good_Base.own_rep op0)
 have ip0:(Tryz.prog.info? 54).map (·.size)=some csp0.length:=by rw [lp0];kernel_rfl
 have uu2:=uu1.trans u2
 have zs2:=u2.size
 have ka0_2:=ka0_1.up u2
 clear zza0_1
 have zza0_2:=ka0_2.lt
 go_wp2_with (first | (refine wpList_load_bk cs0 ka0_2 rfl Tryz.underlying38 rfl i0 (by simp) ?_))
 refine (cs_FlushBase _ x0 _ ⟨_,rfl,good_Base.wide (good_Base.own_rep op0) (Nat.zero_le _) (by omega)⟩ hn0).mono ?_
 rintro e w3 ⟨css,rfl,os,u3⟩
 have lr:css.length=24:=good_Base.len os
 have oner:=good_Base.one os
 have ir:(Tryz.prog.info? 54).map (·.size)=some css.length:=by rw [lr];kernel_rfl
 have is:=ir
 have uu3:=uu2.trans u3
 have zs3:=u3.size
 have ka0_3:=ka0_2.up u3
 have op0_3:=good_Base.own_keep op0 (fun y hy=>u3.block y (Nat.lt_of_lt_of_le (good_Base.own_in op0 y hy).2 (by omega)))
 go_upto_region 6 with (first | (refine wpList_store_bk css (Bk.new _ _ _) rfl rfl ir (by rw [List.all_eq_true];exact oner) (by rw [lr];exact Nat.le_of_ble_eq_true rfl) ?_;intro Wr btr kkr;rw [putL_allB _ css (by rw [lr];rfl)] at kkr;have ur:Up w3 Wr:=((Up.refl w3).alloc _).but btr (Nat.le_refl _);replace btr:=btr.size) | (refine wpList_load_bk css kkr rfl Tryz.underlying54 rfl ir (by simp) ?_) | (refine wpList_load_bk cs0 ka0_3 rfl Tryz.underlying38 rfl i0 (by simp) ?_))
 have uu4:=uu3.trans ur
 have zs4:=ur.size
 have ka0_4:=ka0_3.up ur
 have os_4:=good_Base.keep os (ur.keeps (by omega))
 have zqr:Wr.heap.size=w3.heap.size+1:=by rw [btr];simp
 clear zza0_2
 have zza0_4:=ka0_4.lt
 have zzr_4:=kkr.lt
 go_wp2_with (first | (refine wpList_load_bk cs0 ka0_4 rfl Tryz.underlying38 rfl i0 (by simp) ?_) | (refine wpList_load_bk css kkr rfl Tryz.underlying54 rfl is (by simp) ?_))
 refine (c_toBase _ x0 _ (hv0.up good_Base uu4) hn0).mono ?_
 rintro e w5 ⟨csx0,blx0,rfl,ox0,ndx0,u5⟩
 have lx0:csx0.length=24:=good_Base.len (good_Base.own_rep ox0)
 have onex0:=good_Base.one (good_Base.own_rep ox0)
 have ix0:(Tryz.prog.info? 54).map (·.size)=some csx0.length:=by rw [lx0];kernel_rfl
 have uu5:=uu4.trans u5
 have zs5:=u5.size
 have ka0_5:=ka0_4.up u5
 have kr_5:=kkr.up u5
 have os_5:=good_Base.keep os_4 (u5.keeps (by omega))
 clear os_4
 clear zza0_4 zzr_4
 have zza0_5:=ka0_5.lt
 have zzr_5:=kr_5.lt
 go_wp2_with (first | (refine wpList_store_bk csx0 (Bk.new _ _ _) rfl rfl ix0 (by rw [List.all_eq_true];exact onex0) (by rw [lx0];exact Nat.le_of_ble_eq_true rfl) ?_;intro Wx0 btx0 kkx0;rw [putL_allB _ csx0 (by rw [lx0];rfl)] at kkx0;have ux0:Up w5 Wx0:=((Up.refl w5).alloc _).but btx0 (Nat.le_refl _);replace btx0:=btx0.size) | (refine wpList_load_bk csx0 kkx0 rfl Tryz.underlying54 rfl ix0 (by simp) ?_) | (refine wpList_load_bk cs0 ka0_5 rfl Tryz.underlying38 rfl i0 (by simp) ?_) | (refine wpList_load_bk css kr_5 rfl Tryz.underlying54 rfl is (by simp) ?_))
 have uu6:=uu5.trans ux0
 have zs6:=ux0.size
 have ka0_6:=ka0_5.up ux0
 have kr_6:=kr_5.up ux0
 have os_6:=good_Base.keep os_5 (ux0.keeps (by omega))
 clear os_5
 have ox0_6:=good_Base.own_keep ox0 (fun y hy=>ux0.block y (Nat.lt_of_lt_of_le (good_Base.own_in ox0 y hy).2 (by omega)))
 have zqx0:Wx0.heap.size=w5.heap.size+1:=by rw [btx0];simp
 clear zza0_5 zzr_5
 have zza0_6:=ka0_6.lt
 have zzr_6:=kr_6.lt
 have zzx0_6:=kkx0.lt
 refine (ci_FlushBase _ x0 _ ⟨_,rfl,good_Base.wide (good_Base.own_rep ox0_6) (Nat.zero_le _) (by omega)⟩ hn0 (tab_up htab uu6) (maxL_up hmx uu6)).mono ?_
 rintro e w7 ⟨csg,blg,rfl,og,ndg,u7⟩
 have lg:csg.length=24:=good_Base.len (good_Base.own_rep og)
 have oneg:=good_Base.one (good_Base.own_rep og)
 have ig:(Tryz.prog.info? 54).map (·.size)=some csg.length:=by rw [lg];kernel_rfl
 have uu7:=uu6.trans u7
 have zs7:=u7.size
 have ka0_7:=ka0_6.up u7
 have kr_7:=kr_6.up u7
 have kx0_7:=kkx0.up u7
 have os_7:=good_Base.keep os_6 (u7.keeps (by omega))
 clear os_6
 have ox0_7:=good_Base.own_keep ox0_6 (fun y hy=>u7.block y (Nat.lt_of_lt_of_le (good_Base.own_in ox0_6 y hy).2 (by omega)))
 clear ox0_6
 go_upto_region 8 with (first | (refine wpList_store_bk csg (Bk.new _ _ _) rfl rfl ig (by rw [List.all_eq_true];exact oneg) (by rw [lg];exact Nat.le_of_ble_eq_true rfl) ?_;intro Wg btg kkg;rw [putL_allB _ csg (by rw [lg];rfl)] at kkg;have ug:Up w7 Wg:=((Up.refl w7).alloc _).but btg (Nat.le_refl _);replace btg:=btg.size) | (refine wpList_load_bk csg kkg rfl Tryz.underlying54 rfl ig (by simp) ?_) | (refine wpList_load_bk cs0 ka0_7 rfl Tryz.underlying38 rfl i0 (by simp) ?_) | (refine wpList_load_bk css kr_7 rfl Tryz.underlying54 rfl is (by simp) ?_) | (refine wpList_load_bk csx0 kx0_7 rfl Tryz.underlying54 rfl ix0 (by simp) ?_))
 have uu8:=uu7.trans ug
 have zs8:=ug.size
 have ka0_8:=ka0_7.up ug
 have kr_8:=kr_7.up ug
 have kx0_8:=kx0_7.up ug
 have os_8:=good_Base.keep os_7 (ug.keeps (by omega))
 clear os_7
 have ox0_8:=good_Base.own_keep ox0_7 (fun y hy=>ug.block y (Nat.lt_of_lt_of_le (good_Base.own_in ox0_7 y hy).2 (by omega)))
 clear ox0_7
 have og_8:=good_Base.own_keep og (fun y hy=>ug.block y (Nat.lt_of_lt_of_le (good_Base.own_in og y hy).2 (by omega)))
 have zqg:Wg.heap.size=w7.heap.size+1:=by rw [btg];simp
 clear zza0_6 zzr_6 zzx0_6
 have zza0_8:=ka0_8.lt
 have zzr_8:=kr_8.lt
 have zzx0_8:=kx0_8.lt
 have zzg_8:=kkg.lt
 go_wp2_with (first | (refine wpList_load_bk cs0 ka0_8 rfl Tryz.underlying38 rfl i0 (by simp) ?_) | (refine wpList_load_bk css kr_8 rfl Tryz.underlying54 rfl is (by simp) ?_) | (refine wpList_load_bk csx0 kx0_8 rfl Tryz.underlying54 rfl ix0 (by simp) ?_) | (refine wpList_load_bk csg kkg rfl Tryz.underlying54 rfl ig (by simp) ?_))
 refine (c_eqBase _ _ (baseFlush x0) (baseFlush x0) _ ⟨_,rfl,good_Base.wide (good_Base.own_rep og_8) (Nat.zero_le _) (by omega)⟩ ⟨_,rfl,good_Base.wide os_8 (Nat.le_refl _) (by omega)⟩).mono ?_
 rintro e w9 ⟨be0,rfl,hbe0,u9⟩
 have uu9:=uu8.trans u9
 have zs9:=u9.size
 have ka0_9:=ka0_8.up u9
 have kr_9:=kr_8.up u9
 have kx0_9:=kx0_8.up u9
 have kg_9:=kkg.up u9
 have os_9:=good_Base.keep os_8 (u9.keeps (by omega))
 clear os_8
 have ox0_9:=good_Base.own_keep ox0_8 (fun y hy=>u9.block y (Nat.lt_of_lt_of_le (good_Base.own_in ox0_8 y hy).2 (by omega)))
 clear ox0_8
 have og_9:=good_Base.own_keep og_8 (fun y hy=>u9.block y (Nat.lt_of_lt_of_le (good_Base.own_in og_8 y hy).2 (by omega)))
 clear og_8
 obtain rfl:be0=true:=by simpa using hbe0
 clear hbe0 u9
 clear zza0_8 zzr_8 zzx0_8 zzg_8
 have zza0_9:=ka0_9.lt
 have zzr_9:=kr_9.lt
 have zzx0_9:=kx0_9.lt
 have zzg_9:=kg_9.lt
 go_wp2_with (first | (refine wpList_load_bk cs0 ka0_9 rfl Tryz.underlying38 rfl i0 (by simp) ?_) | (refine wpList_load_bk css kr_9 rfl Tryz.underlying54 rfl is (by simp) ?_) | (refine wpList_load_bk csx0 kx0_9 rfl Tryz.underlying54 rfl ix0 (by simp) ?_) | (refine wpList_load_bk csg kg_9 rfl Tryz.underlying54 rfl ig (by simp) ?_))
 have udr:Up w9 w9.drew:=(Up.refl _).drew
 have uu10:=uu9.trans udr
 have zs10:=udr.size
 have ka0_10:=ka0_9.up udr
 have kr_10:=kr_9.up udr
 have kx0_10:=kx0_9.up udr
 have kg_10:=kg_9.up udr
 have os_10:=good_Base.keep os_9 (udr.keeps (by omega))
 clear os_9
 have ox0_10:=good_Base.own_keep ox0_9 (fun y hy=>udr.block y (Nat.lt_of_lt_of_le (good_Base.own_in ox0_9 y hy).2 (by omega)))
 clear ox0_9
 have og_10:=good_Base.own_keep og_9 (fun y hy=>udr.block y (Nat.lt_of_lt_of_le (good_Base.own_in og_9 y hy).2 (by omega)))
 clear og_9
 refine wp_region_held_drew (S:=fun W=>Bk W (w.heap.size) 38 cs0.toArray∧Bk W (w5.heap.size) 54 csx0.toArray) (by kernel_rfl) ⟨ka0_10,kx0_10⟩ (fun hH=>?_)
 refine wpAnyH_take (i:=0) (v:=.agg csx0.toArray) rfl (by kernel_rfl) (by kernel_rfl) (by kernel_rfl) (fun _ _ _ h=>h) (yieldsIf_load_mid (by rfl) _ _ rfl _ _ rfl csx0 _ (fun W hW=>Bk.range hW.2 0 csx0 (by simp)) Tryz.underlying54 rfl ix0) hH ?_
 try simp only [Act.put,List.setIfInBounds_toArray,List.set_cons_zero,List.set_cons_succ]
 refine wpAnyH_take (i:=1) (v:=.agg cs0.toArray) rfl (by kernel_rfl) (by kernel_rfl) (by kernel_rfl) (fun _ _ _ h=>h) (yieldsIf_load_mid (by rfl) _ _ rfl _ _ rfl cs0 _ (fun W hW=>Bk.range hW.1 0 cs0 (by simp)) Tryz.underlying38 rfl i0) hH ?_
 try simp only [Act.put,List.setIfInBounds_toArray,List.set_cons_zero,List.set_cons_succ]
 refine wpAnyH_ready (rs:=[2]) (by kernel_rfl) (by simp) ?_
 refine AllReadyH.cons rfl (fun K hK=>?_) AllReadyH.nil
 go_simp
 refine (c_toBase _ x0 _ (hv0.up good_Base uu10) hn0).mono ?_
 rintro e w11 ⟨cse0,ble0,rfl,oe0,nde0,u11⟩
 have uu11:=uu10.trans u11
 have zs11:=u11.size
 have ka0_11:=ka0_10.up u11
 have kr_11:=kr_10.up u11
 have kx0_11:=kx0_10.up u11
 have kg_11:=kg_10.up u11
 have os_11:=good_Base.keep os_10 (u11.keeps (by omega))
 clear os_10
 have ox0_11:=good_Base.own_keep ox0_10 (fun y hy=>u11.block y (Nat.lt_of_lt_of_le (good_Base.own_in ox0_10 y hy).2 (by omega)))
 clear ox0_10
 have og_11:=good_Base.own_keep og_10 (fun y hy=>u11.block y (Nat.lt_of_lt_of_le (good_Base.own_in og_10 y hy).2 (by omega)))
 clear og_10
 have ye0:=AV.of_own good_Base oe0
 go_wp2_with fail
 refine hK.out _ _ ⟨ka0_11,kx0_11⟩ (fun hH=>?_)
 clear hK K
 try simp only [Act.put,List.setIfInBounds_toArray,List.set_cons_zero,List.set_cons_succ]
 refine wpAnyH_ready (rs:=[3]) (by kernel_rfl) (by simp) ?_
 refine AllReadyH.cons rfl (fun K hK=>?_) AllReadyH.nil
 go_simp
 refine (c_eqBase _ _ x0 x0 _ ⟨_,rfl,good_Base.wide (good_Base.own_rep ox0_11) (Nat.zero_le _) (by omega)⟩ ye0).mono ?_
 rintro e w12 ⟨bex,rfl,hbex,u12⟩
 have uu12:=uu11.trans u12
 have zs12:=u12.size
 have ka0_12:=ka0_11.up u12
 have kr_12:=kr_11.up u12
 have kx0_12:=kx0_11.up u12
 have kg_12:=kg_11.up u12
 have os_12:=good_Base.keep os_11 (u12.keeps (by omega))
 clear os_11
 have ox0_12:=good_Base.own_keep ox0_11 (fun y hy=>u12.block y (Nat.lt_of_lt_of_le (good_Base.own_in ox0_11 y hy).2 (by omega)))
 clear ox0_11
 have og_12:=good_Base.own_keep og_11 (fun y hy=>u12.block y (Nat.lt_of_lt_of_le (good_Base.own_in og_11 y hy).2 (by omega)))
 clear og_11
 obtain rfl:bex=true:=by simpa using hbex
 clear hbex ye0 oe0 nde0
 go_wp2_with fail
 refine hK.out _ _ ⟨ka0_12,kx0_12⟩ (fun hH=>?_)
 clear hK K
 try simp only [Act.put,List.setIfInBounds_toArray,List.set_cons_zero,List.set_cons_succ]
 refine wpAnyH_ready (rs:=[4]) (by kernel_rfl) (by simp) ?_
 refine AllReadyH.cons rfl (fun K hK=>?_) AllReadyH.nil
 go_simp
 refine hK.out _ _ ⟨ka0_12,kx0_12⟩ (fun hH=>?_)
 clear hK K
 try simp only [Act.put,List.setIfInBounds_toArray,List.set_cons_zero,List.set_cons_succ]
 refine wpAnyH_done (by kernel_rfl) ?_ _
 clear zza0_9 zzr_9 zzx0_9 zzg_9
 have zza0_12:=ka0_12.lt
 have zzr_12:=kr_12.lt
 have zzx0_12:=kx0_12.lt
 have zzg_12:=kg_12.lt
 go_wp2_with (first | (refine wpList_load_bk cs0 ka0_12 rfl Tryz.underlying38 rfl i0 (by simp) ?_) | (refine wpList_load_bk css kr_12 rfl Tryz.underlying54 rfl is (by simp) ?_) | (refine wpList_load_bk csx0 kx0_12 rfl Tryz.underlying54 rfl ix0 (by simp) ?_) | (refine wpList_load_bk csg kg_12 rfl Tryz.underlying54 rfl ig (by simp) ?_))
 have cbx0:(1:Int)+(mmTBase.cnt x0:Nat)≤1000000000:=by have:=cnt_Base x0 hn0;omega
 have cbg:(1:Int)+(mmTBase.cnt (baseFlush x0):Nat)≤1000000000:=cbg_FlushBase x0 hn0
 refine (c_markBase _ (x0) _ (Wr.heap.size) (w5.heap.size) blx0 _ ox0_12 (by omega) ndx0 (by omega) (by simpa using cbx0)).mono ?_
 rintro e w13 ⟨rfl,mox0,oox0⟩
 have hm1013:∀y∈blx0,Wr.heap.size≤y∧y<w5.heap.size:=good_Base.own_in ox0_12
 have uu13:=uu12.only oox0 (fun y hy=>by have:=(hm1013 y hy).1;omega)
 have zs13:=oox0.size
 have ka0_13:=ka0_12.only oox0 (fun hy=>by have:=hm1013 _ hy;omega)
 have kr_13:=kr_12.only oox0 (fun hy=>by have:=hm1013 _ hy;omega)
 have kx0_13:=kx0_12.only oox0 (fun hy=>by have:=hm1013 _ hy;omega)
 have kg_13:=kg_12.only oox0 (fun hy=>by have:=hm1013 _ hy;omega)
 have os_13:=good_Base.keep os_12 (fun y _ hy=>oox0.block y (by omega) (fun hm=>by have h1:=hm1013 y hm;omega))
 clear os_12
 have og_13:=good_Base.own_keep og_12 (fun y hy=>oox0.block y (Nat.lt_of_lt_of_le (good_Base.own_in og_12 y hy).2 (by omega)) (fun hm=>by have h1:=hm1013 y hm;have h2:=good_Base.own_in og_12 y hy;omega))
 clear og_12
 have mkx0:shBase.own w13 (Wr.heap.size) (w5.heap.size) csx0 (mmTBase.mark (x0) 1) blx0:=mox0
 clear mox0 oox0 ox0_12
 clear zza0_12 zzr_12 zzx0_12 zzg_12
 have zza0_13:=ka0_13.lt
 have zzr_13:=kr_13.lt
 have zzx0_13:=kx0_13.lt
 have zzg_13:=kg_13.lt
 go_wp2_with (first | (refine wpList_load_bkg cs0 ka0_13 (by first | rfl | simp [Region.wanted,yielded]) rfl Tryz.underlying38 rfl i0 (by simp) ?_) | (refine wpList_load_bkg css kr_13 (by first | rfl | simp [Region.wanted,yielded]) rfl Tryz.underlying54 rfl is (by simp) ?_) | (refine wpList_load_bkg csx0 kx0_13 (by first | rfl | simp [Region.wanted,yielded]) rfl Tryz.underlying54 rfl ix0 (by simp) ?_) | (refine wpList_load_bkg csg kg_13 (by first | rfl | simp [Region.wanted,yielded]) rfl Tryz.underlying54 rfl ig (by simp) ?_))
 refine (c_eqBase _ _ (baseFlush x0) (baseFlush x0) _ ⟨_,rfl,good_Base.wide (good_Base.own_rep og_13) (Nat.zero_le _) (by omega)⟩ ⟨_,rfl,good_Base.wide os_13 (Nat.le_refl _) (by omega)⟩).mono ?_
 rintro e w14 ⟨be1,rfl,hbe1,u14⟩
 have uu14:=uu13.trans u14
 have zs14:=u14.size
 have ka0_14:=ka0_13.up u14
 have kr_14:=kr_13.up u14
 have kx0_14:=kx0_13.up u14
 have kg_14:=kg_13.up u14
 have os_14:=good_Base.keep os_13 (u14.keeps (by omega))
 clear os_13
 have mkx0_14:=good_Base.own_keep mkx0 (fun y hy=>u14.block y (Nat.lt_of_lt_of_le (good_Base.own_in mkx0 y hy).2 (by omega)))
 have og_14:=good_Base.own_keep og_13 (fun y hy=>u14.block y (Nat.lt_of_lt_of_le (good_Base.own_in og_13 y hy).2 (by omega)))
 clear og_13
 obtain rfl:be1=true:=by simpa using hbe1
 clear hbe1 u14
 clear zza0_13 zzr_13 zzx0_13 zzg_13
 have zza0_14:=ka0_14.lt
 have zzr_14:=kr_14.lt
 have zzx0_14:=kx0_14.lt
 have zzg_14:=kg_14.lt
 go_wp2_with (first | (refine wpList_load_bk cs0 ka0_14 rfl Tryz.underlying38 rfl i0 (by simp) ?_) | (refine wpList_load_bk css kr_14 rfl Tryz.underlying54 rfl is (by simp) ?_) | (refine wpList_load_bk csx0 kx0_14 rfl Tryz.underlying54 rfl ix0 (by simp) ?_) | (refine wpList_load_bk csg kg_14 rfl Tryz.underlying54 rfl ig (by simp) ?_))
 refine (c_markBase _ (baseFlush x0) _ (Wx0.heap.size) (w7.heap.size) blg _ og_14 (by omega) ndg (by omega) (by simpa using cbg)).mono ?_
 rintro e w15 ⟨rfl,mog,oog⟩
 have hm1015:∀y∈blg,Wx0.heap.size≤y∧y<w7.heap.size:=good_Base.own_in og_14
 have uu15:=uu14.only oog (fun y hy=>by have:=(hm1015 y hy).1;omega)
 have zs15:=oog.size
 have ka0_15:=ka0_14.only oog (fun hy=>by have:=hm1015 _ hy;omega)
 have kr_15:=kr_14.only oog (fun hy=>by have:=hm1015 _ hy;omega)
 have kx0_15:=kx0_14.only oog (fun hy=>by have:=hm1015 _ hy;omega)
 have kg_15:=kg_14.only oog (fun hy=>by have:=hm1015 _ hy;omega)
 have os_15:=good_Base.keep os_14 (fun y _ hy=>oog.block y (by omega) (fun hm=>by have h1:=hm1015 y hm;omega))
 clear os_14
 have mkx0_15:=good_Base.own_keep mkx0_14 (fun y hy=>oog.block y (Nat.lt_of_lt_of_le (good_Base.own_in mkx0_14 y hy).2 (by omega)) (fun hm=>by have h1:=hm1015 y hm;have h2:=good_Base.own_in mkx0_14 y hy;omega))
 clear mkx0_14
 have mkg:shBase.own w15 (Wx0.heap.size) (w7.heap.size) csg (mmTBase.mark (baseFlush x0) 1) blg:=mog
 clear mog oog og_14
 clear zza0_14 zzr_14 zzx0_14 zzg_14
 have zza0_15:=ka0_15.lt
 have zzr_15:=kr_15.lt
 have zzx0_15:=kx0_15.lt
 have zzg_15:=kg_15.lt
 go_wp2_with (first | (refine wpList_load_bk cs0 ka0_15 rfl Tryz.underlying38 rfl i0 (by simp) ?_) | (refine wpList_load_bk css kr_15 rfl Tryz.underlying54 rfl is (by simp) ?_) | (refine wpList_load_bk csx0 kx0_15 rfl Tryz.underlying54 rfl ix0 (by simp) ?_) | (refine wpList_load_bk csg kg_15 rfl Tryz.underlying54 rfl ig (by simp) ?_))
 have hia:=gmT_Base.idem (baseFlush x0) 1
 have hsa:=gmT_Base.same (baseFlush x0) 1
 have hcba:(1:Int)+(mmTBase.cnt (mmTBase.mark (baseFlush x0) 1):Nat)≤1000000000:=by rw [hsa];exact cbg
 refine (c_heldBase _ (mmTBase.mark (baseFlush x0) 1) _ _ ⟨_,rfl,good_Base.wide (good_Base.own_rep mkg) (Nat.zero_le _) (by omega)⟩ hia (by omega) hcba).mono ?_
 rintro e w16 ⟨rfl,u16⟩
 have uu16:=uu15.trans u16
 have zs16:=u16.size
 have ka0_16:=ka0_15.up u16
 have kr_16:=kr_15.up u16
 have kx0_16:=kx0_15.up u16
 have kg_16:=kg_15.up u16
 have os_16:=good_Base.keep os_15 (u16.keeps (by omega))
 clear os_15
 have mkx0_16:=good_Base.own_keep mkx0_15 (fun y hy=>u16.block y (Nat.lt_of_lt_of_le (good_Base.own_in mkx0_15 y hy).2 (by omega)))
 clear mkx0_15
 have mkg_16:=good_Base.own_keep mkg (fun y hy=>u16.block y (Nat.lt_of_lt_of_le (good_Base.own_in mkg y hy).2 (by omega)))
 rw [hsa]
 clear hia hsa hcba u16
 clear zza0_15 zzr_15 zzx0_15 zzg_15
 have zza0_16:=ka0_16.lt
 have zzr_16:=kr_16.lt
 have zzx0_16:=kx0_16.lt
 have zzg_16:=kg_16.lt
 go_wp2_with (first | (refine wpList_load_bk cs0 ka0_16 rfl Tryz.underlying38 rfl i0 (by simp) ?_) | (refine wpList_load_bk css kr_16 rfl Tryz.underlying54 rfl is (by simp) ?_) | (refine wpList_load_bk csx0 kx0_16 rfl Tryz.underlying54 rfl ix0 (by simp) ?_) | (refine wpList_load_bk csg kg_16 rfl Tryz.underlying54 rfl ig (by simp) ?_))
 refine (c_toBase _ x0 _ (hv0.up good_Base uu16) hn0).mono ?_
 rintro e w17 ⟨csz0,blz0,rfl,oz0,ndz0,u17⟩
 have lz0:csz0.length=24:=good_Base.len (good_Base.own_rep oz0)
 have onez0:=good_Base.one (good_Base.own_rep oz0)
 have iz0:(Tryz.prog.info? 54).map (·.size)=some csz0.length:=by rw [lz0];kernel_rfl
 have uu17:=uu16.trans u17
 have zs17:=u17.size
 have ka0_17:=ka0_16.up u17
 have kr_17:=kr_16.up u17
 have kx0_17:=kx0_16.up u17
 have kg_17:=kg_16.up u17
 have os_17:=good_Base.keep os_16 (u17.keeps (by omega))
 clear os_16
 have mkg_17:=good_Base.own_keep mkg_16 (fun y hy=>u17.block y (Nat.lt_of_lt_of_le (good_Base.own_in mkg_16 y hy).2 (by omega)))
 clear mkg_16
 clear zza0_16 zzr_16 zzx0_16 zzg_16
 have zza0_17:=ka0_17.lt
 have zzr_17:=kr_17.lt
 have zzx0_17:=kx0_17.lt
 have zzg_17:=kg_17.lt
 go_wp2_with (first | (refine wpList_load_bk cs0 ka0_17 rfl Tryz.underlying38 rfl i0 (by simp) ?_) | (refine wpList_load_bk css kr_17 rfl Tryz.underlying54 rfl is (by simp) ?_) | (refine wpList_load_bk csx0 kx0_17 rfl Tryz.underlying54 rfl ix0 (by simp) ?_) | (refine wpList_load_bk csg kg_17 rfl Tryz.underlying54 rfl ig (by simp) ?_))
 refine (ci_FlushBase _ x0 _ ⟨_,rfl,good_Base.wide (good_Base.own_rep oz0) (Nat.zero_le _) (by omega)⟩ hn0 (tab_up htab uu17) (maxL_up hmx uu17)).mono ?_
 rintro e w18 ⟨csh,blh,rfl,oh,ndh,u18⟩
 have lh:csh.length=24:=good_Base.len (good_Base.own_rep oh)
 have oneh:=good_Base.one (good_Base.own_rep oh)
 have ih:(Tryz.prog.info? 54).map (·.size)=some csh.length:=by rw [lh];kernel_rfl
 have uu18:=uu17.trans u18
 have zs18:=u18.size
 have ka0_18:=ka0_17.up u18
 have kr_18:=kr_17.up u18
 have kx0_18:=kx0_17.up u18
 have kg_18:=kg_17.up u18
 have os_18:=good_Base.keep os_17 (u18.keeps (by omega))
 clear os_17
 have mkg_18:=good_Base.own_keep mkg_17 (fun y hy=>u18.block y (Nat.lt_of_lt_of_le (good_Base.own_in mkg_17 y hy).2 (by omega)))
 clear mkg_17
 have oz0_18:=good_Base.own_keep oz0 (fun y hy=>u18.block y (Nat.lt_of_lt_of_le (good_Base.own_in oz0 y hy).2 (by omega)))
 go_upto_region 25 with (first | (refine wpList_store_bk csh (Bk.new _ _ _) rfl rfl ih (by rw [List.all_eq_true];exact oneh) (by rw [lh];exact Nat.le_of_ble_eq_true rfl) ?_;intro Wh bth kkh;rw [putL_allB _ csh (by rw [lh];rfl)] at kkh;have uh:Up w18 Wh:=((Up.refl w18).alloc _).but bth (Nat.le_refl _);replace bth:=bth.size) | (refine wpList_load_bk csh kkh rfl Tryz.underlying54 rfl ih (by simp) ?_) | (refine wpList_load_bk cs0 ka0_18 rfl Tryz.underlying38 rfl i0 (by simp) ?_) | (refine wpList_load_bk css kr_18 rfl Tryz.underlying54 rfl is (by simp) ?_) | (refine wpList_load_bk csx0 kx0_18 rfl Tryz.underlying54 rfl ix0 (by simp) ?_) | (refine wpList_load_bk csg kg_18 rfl Tryz.underlying54 rfl ig (by simp) ?_))
 have uu19:=uu18.trans uh
 have zs19:=uh.size
 have ka0_19:=ka0_18.up uh
 have kr_19:=kr_18.up uh
 have kx0_19:=kx0_18.up uh
 have kg_19:=kg_18.up uh
 have os_19:=good_Base.keep os_18 (uh.keeps (by omega))
 clear os_18
 have mkg_19:=good_Base.own_keep mkg_18 (fun y hy=>uh.block y (Nat.lt_of_lt_of_le (good_Base.own_in mkg_18 y hy).2 (by omega)))
 clear mkg_18
 have oz0_19:=good_Base.own_keep oz0_18 (fun y hy=>uh.block y (Nat.lt_of_lt_of_le (good_Base.own_in oz0_18 y hy).2 (by omega)))
 clear oz0_18
 have oh_19:=good_Base.own_keep oh (fun y hy=>uh.block y (Nat.lt_of_lt_of_le (good_Base.own_in oh y hy).2 (by omega)))
 have zqh:Wh.heap.size=w18.heap.size+1:=by rw [bth];simp
 clear zza0_17 zzr_17 zzx0_17 zzg_17
 have zza0_19:=ka0_19.lt
 have zzr_19:=kr_19.lt
 have zzx0_19:=kx0_19.lt
 have zzg_19:=kg_19.lt
 have zzh_19:=kkh.lt
 go_wp2_with (first | (refine wpList_load_bk cs0 ka0_19 rfl Tryz.underlying38 rfl i0 (by simp) ?_) | (refine wpList_load_bk css kr_19 rfl Tryz.underlying54 rfl is (by simp) ?_) | (refine wpList_load_bk csx0 kx0_19 rfl Tryz.underlying54 rfl ix0 (by simp) ?_) | (refine wpList_load_bk csg kg_19 rfl Tryz.underlying54 rfl ig (by simp) ?_) | (refine wpList_load_bk csh kkh rfl Tryz.underlying54 rfl ih (by simp) ?_))
 refine (c_eqBase _ _ (baseFlush x0) (baseFlush x0) _ ⟨_,rfl,good_Base.wide (good_Base.own_rep oh_19) (Nat.zero_le _) (by omega)⟩ ⟨_,rfl,good_Base.wide os_19 (Nat.le_refl _) (by omega)⟩).mono ?_
 rintro e w20 ⟨be2,rfl,hbe2,u20⟩
 have uu20:=uu19.trans u20
 have zs20:=u20.size
 have ka0_20:=ka0_19.up u20
 have kr_20:=kr_19.up u20
 have kx0_20:=kx0_19.up u20
 have kg_20:=kg_19.up u20
 have kh_20:=kkh.up u20
 have os_20:=good_Base.keep os_19 (u20.keeps (by omega))
 clear os_19
 have mkg_20:=good_Base.own_keep mkg_19 (fun y hy=>u20.block y (Nat.lt_of_lt_of_le (good_Base.own_in mkg_19 y hy).2 (by omega)))
 clear mkg_19
 have oz0_20:=good_Base.own_keep oz0_19 (fun y hy=>u20.block y (Nat.lt_of_lt_of_le (good_Base.own_in oz0_19 y hy).2 (by omega)))
 clear oz0_19
 have oh_20:=good_Base.own_keep oh_19 (fun y hy=>u20.block y (Nat.lt_of_lt_of_le (good_Base.own_in oh_19 y hy).2 (by omega)))
 clear oh_19
 obtain rfl:be2=true:=by simpa using hbe2
 clear hbe2 u20
 clear zza0_19 zzr_19 zzx0_19 zzg_19 zzh_19
 have zza0_20:=ka0_20.lt
 have zzr_20:=kr_20.lt
 have zzx0_20:=kx0_20.lt
 have zzg_20:=kg_20.lt
 have zzh_20:=kh_20.lt
 go_wp2_with (first | (refine wpList_load_bk cs0 ka0_20 rfl Tryz.underlying38 rfl i0 (by simp) ?_) | (refine wpList_load_bk css kr_20 rfl Tryz.underlying54 rfl is (by simp) ?_) | (refine wpList_load_bk csx0 kx0_20 rfl Tryz.underlying54 rfl ix0 (by simp) ?_) | (refine wpList_load_bk csg kg_20 rfl Tryz.underlying54 rfl ig (by simp) ?_) | (refine wpList_load_bk csh kh_20 rfl Tryz.underlying54 rfl ih (by simp) ?_))
 have hib:=gmT_Base.idem (baseFlush x0) 1
 have hsb:=gmT_Base.same (baseFlush x0) 1
 have hcbb:(1:Int)+(mmTBase.cnt (mmTBase.mark (baseFlush x0) 1):Nat)≤1000000000:=by rw [hsb];exact cbg
 refine (c_heldBase _ (mmTBase.mark (baseFlush x0) 1) _ _ ⟨_,rfl,good_Base.wide (good_Base.own_rep mkg_20) (Nat.zero_le _) (by omega)⟩ hib (by omega) hcbb).mono ?_
 rintro e w21 ⟨rfl,u21⟩
 have uu21:=uu20.trans u21
 have zs21:=u21.size
 have ka0_21:=ka0_20.up u21
 have kr_21:=kr_20.up u21
 have kx0_21:=kx0_20.up u21
 have kg_21:=kg_20.up u21
 have kh_21:=kh_20.up u21
 have os_21:=good_Base.keep os_20 (u21.keeps (by omega))
 clear os_20
 have mkg_21:=good_Base.own_keep mkg_20 (fun y hy=>u21.block y (Nat.lt_of_lt_of_le (good_Base.own_in mkg_20 y hy).2 (by omega)))
 clear mkg_20
 have oz0_21:=good_Base.own_keep oz0_20 (fun y hy=>u21.block y (Nat.lt_of_lt_of_le (good_Base.own_in oz0_20 y hy).2 (by omega)))
 clear oz0_20
 have oh_21:=good_Base.own_keep oh_20 (fun y hy=>u21.block y (Nat.lt_of_lt_of_le (good_Base.own_in oh_20 y hy).2 (by omega)))
 clear oh_20
 rw [hsb]
 clear hib hsb hcbb u21
 clear zza0_20 zzr_20 zzx0_20 zzg_20 zzh_20
 have zza0_21:=ka0_21.lt
 have zzr_21:=kr_21.lt
 have zzx0_21:=kx0_21.lt
 have zzg_21:=kg_21.lt
 have zzh_21:=kh_21.lt
 go_wp2_with (first | (refine wpList_load_bk cs0 ka0_21 rfl Tryz.underlying38 rfl i0 (by simp) ?_) | (refine wpList_load_bk css kr_21 rfl Tryz.underlying54 rfl is (by simp) ?_) | (refine wpList_load_bk csx0 kx0_21 rfl Tryz.underlying54 rfl ix0 (by simp) ?_) | (refine wpList_load_bk csg kg_21 rfl Tryz.underlying54 rfl ig (by simp) ?_) | (refine wpList_load_bk csh kh_21 rfl Tryz.underlying54 rfl ih (by simp) ?_))
 go_ret
 exact ⟨rfl,uu21⟩
end Go.Proofs.YthdnicfbnihoaaaGreatDoor
