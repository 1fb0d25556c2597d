/-
 Parts of the proof.
-/
import Derived.Test.YtojmcmghmnfjeaaGreatDoorM1G
import Derived.Lib.IndexMore
set_option maxHeartbeats 8000000
set_option maxRecDepth 100000
namespace Go.Proofs.YtojmcmghmnfjeaaGreatDoor
open Go.RowKit
set_option linter.unusedVariables false
set_option linter.unusedSimpArgs false
theorem c_l03Subs (xs:List ByteArray) (A:Option Addr) (c:Nat) (w:World) (h:SRW shS w A c xs) (hn:xs.length≤1048576) :
 Calls Tryz.prog 63 #[.slice A xs.length c] w (ToL shS xs w):=by
 obtain ⟨i0,hi0,hz0,hz1,hz2⟩:=info_parts cinfo_StringS
 go_enter Tryz.func63,Tryz.ntmps63
 go_wp2_with (first
  | (at_builtin
     refine wpList_app_new good_S flat_S rfl _ _ _ 9 rfl i0 _ Tryz.underlying52 hi0 hz0 hz1 (by rfl) rfl rfl (h.up good_S ((Up.refl w).alloc _)) (by rw [hz2];omega) ?_
     intro D d bl w1 hso hnd hu))
 go_ret
 exact ⟨D,d,bl,rfl,hso.wide good_S (by simp) (Nat.le_refl _),hnd,((Up.refl w).alloc _).trans hu⟩
theorem head_cons_ne {b:UInt8} {l:List UInt8} (h:b≠1):headL (b::l)=b::headL l:=by simp [headL,h]
theorem head_cons_one (l:List UInt8):headL (1::l)=[]:=by simp [headL]
theorem head_le (l:List UInt8):(headL l).length≤l.length:=(List.takeWhile_sublist _).length_le
theorem index_head:∀l:List UInt8,Lib.index l [1]=if (headL l).length<l.length then ((headL l).length:Int) else -1
 | []=>by simp [Lib.index,headL]
 | b::l=>by
  have ih:=index_head l
  by_cases hb:b=1
  ·subst hb
   rw [head_cons_one]
   simp [Lib.index]
  ·have h1:((1:UInt8)==b)=false:=by simpa using fun e=>hb e.symm
   rw [head_cons_ne hb]
   simp only [Lib.index,List.isPrefixOf,h1,Bool.false_and,ih,List.length_cons]
   by_cases hc:(headL l).length<l.length
   ·rw [if_pos hc,if_pos (show (headL l).length+1<l.length+1 by omega)]
    have:(((headL l).length:Int)==-1)=false:=by simp
    simp [this]
   ·rw [if_neg hc,if_neg (show ¬(headL l).length+1<l.length+1 by omega)]
    simp
theorem head_take:∀l:List UInt8,l.take (headL l).length=headL l
 | []=>rfl
 | b::l=>by
  by_cases hb:b=1
  ·subst hb;rw [head_cons_one];rfl
  ·rw [head_cons_ne hb]
   show b::l.take (headL l).length=_
   rw [head_take l]
theorem cut_mark (l:List UInt8):Lib.cut l [1]=if (headL l).length<l.length then (headL l,l.drop ((headL l).length+1),true) else (l,[],false):=by
 unfold Lib.cut
 rw [index_head]
 by_cases hc:(headL l).length<l.length
 ·rw [if_pos hc,if_pos hc,if_pos (by omega),Int.toNat_natCast,head_take];rfl
 ·rw [if_neg hc,if_neg hc,if_neg (by omega)]
theorem head_ge:∀(l:List UInt8) (k:Nat),(∀j (h:j<l.length),j<k→l[j]≠1)→min k l.length≤(headL l).length
 | [],k,_=>by simp
 | b::l,0,_=>by simp
 | b::l,k+1,h=>by
  have hb:b≠1:=h 0 (by simp) (by omega)
  have ih:=head_ge l k (fun j hj hjk=>h (j+1) (by simp;omega) (by omega))
  rw [head_cons_ne hb]
  simp only [List.length_cons]
  omega
theorem head_at:∀(l:List UInt8) (k:Nat) (hk:k<l.length),(∀j (h:j<l.length),j<k→l[j]≠1)→l[k]=1→headL l=l.take k
 | [],k,hk,_,_=>by simp at hk
 | b::l,0,_,_,h=>by
  have:b=1:=h
  subst this
  rw [head_cons_one];rfl
 | b::l,k+1,hk,h,h1=>by
  have hb:b≠1:=h 0 (by simp) (by omega)
  have ih:=head_at l k (by simpa using hk) (fun j hj hjk=>h (j+1) (by simp;omega) (by omega)) (by simpa using h1)
  rw [head_cons_ne hb,ih];rfl
theorem name_head {s:ByteArray} (h:nameB s=true):∃h0:0<s.size,s[0]≠1:=by
 have hp:NameP s:=of_decide_eq_true h
 refine ⟨by have:=hp.1;omega,fun e=>?_⟩
 have:=hp.2.2 0 (by have:=hp.1;omega)
 rw [e] at this
 exact absurd this (by decide)
theorem place_out {key:ByteArray} {k:Nat} (hk:key.size≤k∨8<k) (h:∀j (hj:j<key.size),1≤j→j<k→key[j]≠1):placeOf key=none:=by
 have hl:=slen key
 unfold placeOf
 rw [if_neg]
 rintro ⟨h1,h2⟩
 obtain ⟨h3,h4⟩:=name_head h2
 have hz:=bs_size (headL key.data.toList)
 have hn:=nameB_size h2
 have h0:0<key.size:=by omega
 have e0:key[0]≠1:=by
  intro e
  have hc:=cons_bytes key h0
  rw [hc,e,head_cons_one] at h3
  exact absurd h3 (by decide)
 have hg:=head_ge key.data.toList k (fun j hj hjk=>by
  have hj':j<key.size:=by omega
  rcases Nat.eq_zero_or_pos j with rfl | hp
  ·exact e0
  ·exact h j hj' hp hjk)
 rw [hl] at hg
 omega
theorem place_at {key:ByteArray} {k:Nat} (hk:k<key.size) (hk1:1≤k) (h:∀j (hj:j<key.size),1≤j→j<k→key[j]≠1) (hm:key[k]=1) :
 placeOf key=if nameB (bs (key.data.toList.take k))=true then (subsOf (key.data.toList.drop (k+1))).map fun l=>(bs (key.data.toList.take k),l) else none:=by
 have hl:=slen key
 have hlt:(key.data.toList.take k).length=k:=by rw [List.length_take];omega
 by_cases e0:key[0]'(by omega)=1
 ·have hc:=cons_bytes key (by omega)
  have hhd:headL key.data.toList=[]:=by rw [hc,e0,head_cons_one]
  have hnn:nameB (bs (key.data.toList.take k))=false:=by
   cases hn:nameB (bs (key.data.toList.take k))
   ·rfl
   ·obtain ⟨h3,h4⟩:=name_head hn
    refine absurd ?_ h4
    show (key.data.toList.take k)[0]'(by omega)=1
    rw [List.getElem_take]
    exact e0
  rw [hnn,if_neg (by decide)]
  unfold placeOf
  rw [hhd,if_neg]
  rintro ⟨_,h2⟩
  have:=nameB_size h2
  have hz:(bs []).size=0:=bs_size []
  omega
 ·have hh:=head_at key.data.toList k (by omega) (fun j hj hjk=>by
   have hj':j<key.size:=by omega
   rcases Nat.eq_zero_or_pos j with rfl | hp
   ·exact e0
   ·exact h j hj' hp hjk) hm
  unfold placeOf
  rw [hh,hlt]
  by_cases hn:nameB (bs (key.data.toList.take k))=true
  ·rw [if_pos ⟨hk,hn⟩,if_pos hn]
  ·rw [if_neg (fun x=>hn x.2),if_neg hn]
def KpP (r:Option (ByteArray×List ByteArray)) (w:World) (e:Ending) (w':World):Prop :=
 Up w w'∧∃A c,match r with
  | some p=>e=.returned (.tuple #[.string p.1,.slice A p.2.length c,.bool true])∧SRW shS w' A c p.2
  | none=>e=.returned (.tuple #[.string ⟨#[]⟩,.slice A 0 c,.bool false])∧SRW shS w' A c []
def KpO (r:Option (ByteArray×List ByteArray)) (w:World) (e:Ending) (w':World):Prop :=
 Up w w'∧∃A c,match r with
  | some p=>e=.returned (.tuple #[.string p.1,.slice A p.2.length c,.bool true])∧∃bl,SO shS w' w.heap.size w'.heap.size A c p.2 bl∧bl.Nodup
  | none=>e=.returned (.tuple #[.string ⟨#[]⟩,.slice A 0 c,.bool false])∧SRW shS w' A c []
theorem KpO.rd {r:Option (ByteArray×List ByteArray)} {w w':World} {e:Ending} (h:KpO r w e w'):KpP r w e w':=by
 obtain ⟨u,A,c,h⟩:=h
 cases r with
 | none=>exact ⟨u,A,c,h⟩
 | some l =>
  obtain ⟨h1,bl,h2,_⟩:=h
  exact ⟨u,A,c,h1,SR.of_own good_S h2⟩
theorem c_KeyPlaceO (key:ByteArray) (w:World) (hs:key.size≤1048576) (htab:Tab w) (hm:MaxL w):Calls Tryz.prog 44 #[.string key] w (KpO (placeOf key) w):=by
 have hl:=slen key
 have hcut:=cut_mark key.data.toList
 obtain ⟨m,hm0⟩:=hm
 have hm:=hm0
 have cc:=fun W (u:Up w W)=>Tryz.strings_Cut key ⟨#[1]⟩ m W (by omega) ((u.cell (cell_lt hm)).trans hm)
 have e1:(ByteArray.mk #[1]).data.toList=[1]:=rfl
 rw [e1,hcut] at cc
 have CG:=Hd (fun (r:ByteArray) (hr:r.size≤1048576) W (u:Up w W)=>c_GetSubsO r W hr (tab_up htab u) (maxL_up ⟨m,hm⟩ u))
 have hpl:placeOf key=if (headL key.data.toList).length<key.size∧nameB (bs (headL key.data.toList))=true then (subsOf (key.data.toList.drop ((headL key.data.toList).length+1))).map fun l=>(bs (headL key.data.toList),l) else none:=rfl
 have hhl:=head_le key.data.toList
 have hdl:(key.data.toList.drop ((headL key.data.toList).length+1)).length≤key.size:=by rw [List.length_drop];omega
 rw [hl] at cc
 generalize headL key.data.toList=H at *
 generalize key.data.toList.drop (H.length+1)=D at *
 have hbd:=bs_size D
 have hbh:=bs_size H
 by_cases hf:H.length<key.size
 ·rw [if_pos hf] at cc
  have CC:=Hd cc
  clear cc
  have cg:=CG.out (bs D) (by omega)
  have eD:(bs D).data.toList=D:=rfl
  rw [eD] at cg
  have CG2:=Hd cg
  have CN:=Hd (fun W=>c_NameOk (bs H) W (by unfold maxLen;omega))
  clear cg CG hm0 hm hcut hl e1
  cases hsb:subsOf D with
  | none =>
   have HP:Hid (placeOf key=none):=Hd (by rw [hpl,hsb];simp)
   rw [hsb] at CG2
   clear hpl hsb
   go_enter Tryz.func44,Tryz.ntmps44
   go_wp2_with fail
   refine (CC.out _ (Up.refl _)).mono ?_
   rintro e w1 ⟨rfl,n1,rfl⟩
   have u1:Up w (w.drewN n1):=(Up.refl w).drewN n1
   go_wp2_with fail
   refine (CG2.out _ u1).mono ?_
   rintro e w2 ⟨u2,A,c,rfl,_⟩
   go_wp2_with fail
   go_ret3
   rw [HP.out]
   exact ⟨u1.trans u2,none,0,rfl,SR.nil _ _ _⟩
  | some l =>
   rw [hsb] at CG2
   cases hn:nameB (bs H)
   ·have HP:Hid (placeOf key=none):=Hd (by rw [hpl,if_neg (by rw [hn];simp)])
    rw [hn] at CN
    clear hpl hsb
    go_enter Tryz.func44,Tryz.ntmps44
    go_wp2_with fail
    refine (CC.out _ (Up.refl _)).mono ?_
    rintro e w1 ⟨rfl,n1,rfl⟩
    have u1:Up w (w.drewN n1):=(Up.refl w).drewN n1
    go_wp2_with fail
    refine (CG2.out _ u1).mono ?_
    rintro e w2 ⟨u2,A,c,rfl,bl2,sr,nd2⟩
    go_wp2_with fail
    refine (CN.out _).mono ?_
    rintro e w3 ⟨rfl,u3⟩
    go_wp2_with fail
    go_ret3
    rw [HP.out]
    exact ⟨(u1.trans u2).trans u3,none,0,rfl,SR.nil _ _ _⟩
   ·have HP:Hid (placeOf key=some (bs H,l)):=Hd (by rw [hpl,if_pos ⟨hf,hn⟩,hsb];rfl)
    rw [hn] at CN
    clear hpl hsb
    go_enter Tryz.func44,Tryz.ntmps44
    go_wp2_with fail
    refine (CC.out _ (Up.refl _)).mono ?_
    rintro e w1 ⟨rfl,n1,rfl⟩
    have u1:Up w (w.drewN n1):=(Up.refl w).drewN n1
    go_wp2_with fail
    refine (CG2.out _ u1).mono ?_
    rintro e w2 ⟨u2,A,c,rfl,bl2,sr,nd2⟩
    go_wp2_with fail
    refine (CN.out _).mono ?_
    rintro e w3 ⟨rfl,u3⟩
    go_wp2_with fail
    go_ret3
    rw [HP.out]
    exact ⟨(u1.trans u2).trans u3,A,c,rfl,bl2,(sr.wide good_S u1.size (Nat.le_refl _)).up good_S u3,nd2⟩
 ·rw [if_neg hf] at cc
  have CC:=Hd cc
  clear cc
  have HP:Hid (placeOf key=none):=Hd (by rw [hpl,if_neg (fun x=>hf x.1)])
  have cg:=CG.out (bs []) (by simp [bs,ByteArray.size])
  have CG2:=Hd cg
  clear cg CG hm0 hm hcut hl e1 hpl
  go_enter Tryz.func44,Tryz.ntmps44
  go_wp2_with fail
  refine (CC.out _ (Up.refl _)).mono ?_
  rintro e w1 ⟨rfl,n1,rfl⟩
  have u1:Up w (w.drewN n1):=(Up.refl w).drewN n1
  go_wp2_with fail
  refine (CG2.out _ u1).mono ?_
  rintro e w2 ⟨u2,A,c,h2⟩
  cases hsb:subsOf (bs []).data.toList with
  | none =>
   rw [hsb] at h2
   obtain ⟨rfl,_⟩:=h2
   go_wp2_with fail
   go_ret3
   rw [HP.out]
   exact ⟨u1.trans u2,none,0,rfl,SR.nil _ _ _⟩
  | some l =>
   rw [hsb] at h2
   obtain ⟨rfl,_⟩:=h2
   go_wp2_with fail
   go_ret3
   rw [HP.out]
   exact ⟨u1.trans u2,none,0,rfl,SR.nil _ _ _⟩
theorem c_KeyPlace (key:ByteArray) (w:World) (hs:key.size≤1048576) (htab:Tab w) (hm:MaxL w):Calls Tryz.prog 44 #[.string key] w (KpP (placeOf key) w):=(c_KeyPlaceO key w hs htab hm).mono fun _ _ h=>h.rd
theorem c_isKey (key:ByteArray) (w:World) (hs:key.size≤1048576) (htab:Tab w) (hm:MaxL w):Calls Tryz.prog 18 #[.string key] w (RetV (.bool (keyB key)) w):=by
 unfold keyB
 go_enter Tryz.func18,Tryz.ntmps18
 go_wp2_with fail
 refine (c_KeyPlace key _ hs htab hm).mono ?_
 rintro e w1 ⟨u1,A,c,h⟩
 cases hp:placeOf key with
 | none =>
  rw [hp] at h
  obtain ⟨rfl,_⟩:=h
  go_wp2_with fail
  go_ret
  exact ⟨by rw [hp];rfl,u1⟩
 | some p =>
  rw [hp] at h
  obtain ⟨rfl,_⟩:=h
  go_wp2_with fail
  go_ret
  exact ⟨by rw [hp];rfl,u1⟩
theorem c_specKeyPlaceO (key:ByteArray) (w:World) (hs:key.size≤1048576):Calls Tryz.prog 30 #[.string key] w (KpO (placeOf key) w):=by
 have hl:=slen key
 have HO:=Hd (fun k (hk:key.size≤k∨8<k)=>place_out (key:=key) hk)
 have HA:=Hd (fun k (hk:k<key.size) (hk1:1≤k)=>place_at hk hk1)
 generalize hR:placeOf key=R at *
 clear hR
 go_enter Tryz.func30,Tryz.ntmps30
 go_wp2_with fail
 go_loopw [5] (fun i wr=>∃k:Nat,1≤k∧k≤9∧i=.int .i64 k∧Hid (∀j (hj:j<key.size),1≤j→j<k→key[j]≠1)∧Up w wr) (fun i _=>9-(intOf i).toNat)
 case atStart=>exact ⟨1,Nat.le_refl _,by omega,rfl,Hd (fun j hj h1 h2=>absurd h1 (by omega)),Up.refl _⟩
 case round =>
  obtain ⟨k,hk1,hk9,rfl,HB,hu⟩:=hrel
  by_cases hlt:k<key.size
  ·by_cases h8:k≤8
   ·by_cases hm:key[k]=1
    ·have bm:(key[k].toNat:Int)=1:=u8_yb 1 rfl hm
     have hp:=HA.out k hlt hk1 HB.out hm
     have hbl:=bs_size (key.data.toList.drop (k+1))
     have hdl:(key.data.toList.drop (k+1)).length=key.size-(k+1):=by rw [List.length_drop,hl]
     have hx:key.extract (k+1) key.size=bs (key.data.toList.drop (k+1)):=by rw [ext_bs,List.take_of_length_le (by omega)]
     have hx0:key.extract 0 k=bs (key.data.toList.take k):=by rw [ext_bs,List.drop_zero]
     have hz0:(key.extract 0 k).size=k:=by rw [ByteArray.size_extract];omega
     have cg:=fun W=>c_specGetSubs (key.extract (k+1) key.size) W (by rw [hx];omega)
     have eD:(key.extract (k+1) key.size).data.toList=key.data.toList.drop (k+1):=by rw [hx];rfl
     rw [eD] at cg
     have CG:=Hd cg
     have CP:=Hd (fun l A c W (sr:SRW shS W A c l)=>c_l03Place (key.extract 0 k) l A c W (by rw [hz0];unfold maxLen;omega) sr)
     rw [←hx0] at hp
     have HP:=Hd hp
     have hki:(k:Int)+1≤(key.size:Int):=by omega
     have hk0:(0:Int)≤(k:Int):=by omega
     clear cg hp hx hx0 hbl hdl eD HA HO hm
     generalize key.data.toList.drop (k+1)=DD at *
     cases hsb:subsOf DD with
     | none =>
      rw [hsb] at CG HP
      have HR:Hid (R=none):=Hd (by rw [HP.out];simp)
      clear HP hsb
      go_wp2_with fail
      go_quiet (fail)
      go_wp2_with fail
      refine (CG.out _).mono ?_
      rintro e w2 ⟨u2,A,c,rfl,_⟩
      go_wp2_with fail
      refine bodyPost_ret (v:=.tuple #[.string ⟨#[]⟩,.slice none 0 0,.bool false]) (by simp [results,Tryz.results30,go_sem]) rfl ?_
      rw [HR.out]
      exact ⟨(hu.drewN nq).trans u2,none,0,rfl,SR.nil _ _ _⟩
     | some l =>
      rw [hsb] at CG HP
      have hpb:placeB (key.extract 0 k) l=nameB (key.extract 0 k):=by
       unfold placeB
       rw [(getSubs_some hsb).1];simp
      cases hn:nameB (key.extract 0 k)
      ·have HR:Hid (R=none):=Hd (by rw [HP.out,if_neg (by rw [hn];simp)])
       rw [hn] at hpb
       clear HP hsb
       go_wp2_with fail
       go_quiet (fail)
       go_wp2_with fail
       refine (CG.out _).mono ?_
       rintro e w2 ⟨u2,A,c,rfl,sr⟩
       go_wp2_with fail
       refine (CP.out l A c _ sr).mono ?_
       rintro e w3 ⟨rfl,u3⟩
       rw [hpb]
       go_wp2_with fail
       refine bodyPost_ret (v:=.tuple #[.string ⟨#[]⟩,.slice none 0 0,.bool false]) (by simp [results,Tryz.results30,go_sem]) rfl ?_
       rw [HR.out]
       exact ⟨((hu.drewN nq).trans u2).trans u3,none,0,rfl,SR.nil _ _ _⟩
      ·have HR:Hid (R=some (key.extract 0 k,l)):=Hd (by rw [HP.out,if_pos hn];rfl)
       rw [hn] at hpb
       have hll4:l.length≤1048576:=by have:=(subsP_of (getSubs_some hsb).1).1;omega
       clear HP hsb
       go_wp2_with fail
       go_quiet (fail)
       go_wp2_with fail
       refine (CG.out _).mono ?_
       rintro e w2 ⟨u2,A,c,rfl,sr⟩
       go_wp2_with fail
       refine (CP.out l A c _ sr).mono ?_
       rintro e w3 ⟨rfl,u3⟩
       rw [hpb]
       have sr3:=sr.up good_S u3
       go_wp2_with fail
       go_region_with (go_at_call 63;refine (c_l03Subs l A c _ (sr3.up good_S (Up.refl _).drew) hll4).mono ?_;rintro e w4 ⟨D4,d4,bl4,rfl,so4,nd4,u4⟩)
       all_goals
        go_wp2_with fail
        refine bodyPost_ret (v:=.tuple #[.string (key.extract 0 k),.slice D4 l.length d4,.bool true]) (by simp [results,Tryz.results30,go_sem]) rfl ?_
        rw [HR.out]
        have UU:=((hu.drewN nq).trans u2).trans u3
        exact ⟨((hu.drewN nq).trans u2).trans (u3.trans ((Up.refl w3).drew.trans u4)),D4,d4,rfl,bl4,so4.wide good_S UU.size (Nat.le_refl _),nd4⟩
    ·have nm:=u8_nn 1 rfl hm
     have bm:=u8_nb 1 rfl hm
     have Bm:((key[k].toNat:Int) != (((ByteArray.mk #[1])[0]'(by decide)).toNat:Int))=true:=u8_nB _ rfl hm
     have bn:((key[k].toNat:Int)==(((ByteArray.mk #[1])[0]'(by decide)).toNat:Int))=false:=u8_nb _ rfl hm
     have nn:¬(key[k].toNat:Int)=(((ByteArray.mk #[1])[0]'(by decide)).toNat:Int):=u8_nn _ rfl hm
     have HN:Hid (∀j (hj:j<key.size),1≤j→j<k+1→key[j]≠1):=Hd fun j hj h1 h2=>by
      by_cases e:j=k
      ·subst e;exact hm
      ·exact HB.out j hj h1 (by omega)
     clear hm
     go_wp2_with fail
     go_quiet (fail)
     go_wp2_with fail
     go_roundw
     case rel=>exact ⟨k+1,by omega,by omega,by go_num,HN,hu.drewN nq⟩
     case measure=>simp [intOf];omega
   ·have HR:=Hd (HO.out k (.inr (by omega)) HB.out)
    have h8i:¬(k:Int)≤8:=by omega
    go_wp2_with fail
    refine bodyPost_ret (v:=.tuple #[.string ⟨#[]⟩,.slice none 0 0,.bool false]) (by simp [results,Tryz.results30,go_sem]) rfl ?_
    rw [HR.out]
    exact ⟨hu,none,0,rfl,SR.nil _ _ _⟩
  ·have HR:=Hd (HO.out k (.inl (by omega)) HB.out)
   go_wp2_with fail
   refine bodyPost_ret (v:=.tuple #[.string ⟨#[]⟩,.slice none 0 0,.bool false]) (by simp [results,Tryz.results30,go_sem]) rfl ?_
   rw [HR.out]
   exact ⟨hu,none,0,rfl,SR.nil _ _ _⟩
theorem c_specKeyPlace (key:ByteArray) (w:World) (hs:key.size≤1048576):Calls Tryz.prog 30 #[.string key] w (KpP (placeOf key) w):=(c_specKeyPlaceO key w hs).mono fun _ _ h=>h.rd
def KeysP (l:List ByteArray):Prop:=∀i (h:i<l.length),keyB l[i]=true∧(0<i→bytesLt (l[i-1]'(by omega)) l[i]=true)
instance (l:List ByteArray):Decidable (KeysP l):=by unfold KeysP;infer_instance
def keysB (l:List ByteArray):Bool:=decide (KeysP l)
theorem keysB_t {l:List ByteArray} (h:KeysP l):keysB l=true:=decide_eq_true h
theorem keysB_f {l:List ByteArray} (h:¬KeysP l):keysB l=false:=decide_eq_false h
def KeysTo (l:List ByteArray) (k:Nat):Prop:=∀j (hj:j<l.length),j<k→keyB l[j]=true∧(0<j→bytesLt (l[j-1]'(by omega)) l[j]=true)
theorem keysTo_one {l:List ByteArray} (h:0<l.length) (hk:keyB l[0]=true):KeysTo l (0+1):=fun j hj h1=>by
 obtain rfl:j=0:=by omega
 exact ⟨hk,fun hh=>absurd hh (by omega)⟩
theorem keysTo_succ {l:List ByteArray} {m:Nat} (hm:m+1<l.length) (h:KeysTo l (m+1)) (hk:keyB l[m+1]=true) (hb:bytesLt l[m] l[m+1]=true):KeysTo l (m+1+1):=fun j hj h1=>by
 by_cases e:j=m+1
 ·subst e;exact ⟨hk,fun _=>hb⟩
 ·exact h j hj (by omega)
theorem keysP_of {l:List ByteArray} {k:Nat} (hk:l.length≤k) (h:KeysTo l k):KeysP l:=fun j hj=>h j hj (by omega)
--@begin f{impl.keysOk}
theorem c_keysOk (xs:List ByteArray) (A:Option Addr) (c:Nat) (w:World) (h:SRW shS w A c xs) (hz:∀x∈xs,x.size≤1048576) (htab:Tab w) (hm:MaxL w):Calls Tryz.prog 71 #[.slice A xs.length c] w (RetV (.bool (keysB xs)) w):=by
 have hlen:=h.len_le
 have CK:=Hd (fun k (hk:k<xs.length) W (u:Up w W)=>c_isKey xs[k] W (hz _ (List.getElem_mem hk)) (tab_up htab u) (maxL_up hm u))
 have HF:Hid (¬KeysP xs→(keysB xs)=false):=Hd (fun hh=>by rw [keysB_f hh])
 have HT:Hid (KeysP xs→(keysB xs)=true):=Hd (fun hh=>by rw [keysB_t hh])
 generalize (keysB xs)=R at *
 go_enter Tryz.func71,Tryz.ntmps71
 go_wp2_with fail
 go_loopw [7] (fun i wr=>∃k:Nat,k≤xs.length∧i=.int .i64 k∧Hid (KeysTo xs k)∧Up w wr) (fun i _=>xs.length-(intOf i).toNat)
 case atStart=>exact ⟨0,Nat.zero_le _,rfl,Hd (fun j hj h1=>absurd h1 (by omega)),Up.refl _⟩
 case round =>
  obtain ⟨k,hk,rfl,HB,hu⟩:=hrel
  by_cases hlt:k<xs.length
  ·obtain ⟨g,off,rfl,_,_,hc,hb1⟩:=(h.up good_S hu).at_S hlt
   have ck:=Hd (CK.out k hlt)
   cases hkb:keyB xs[k]
   ·have HR:=Hd (HF.out (fun hh=>by have:=(hh k hlt).1;rw [hkb] at this;cases this))
    rw [hkb] at ck
    clear HF HT hkb
    by_cases k0:k=0
    ·subst k0
     have hc':wr.cell? ⟨g,off,none⟩=some (.string xs[0]):=by simpa using hc
     clear hc
     go_wp2_with fail
     refine (ck.out _ hu).mono ?_
     rintro e w1 ⟨rfl,u1⟩
     go_wp2_with fail
     refine bodyPost_ret (v:=.bool false) (by simp [results,Tryz.results71,go_sem]) rfl ?_
     exact ⟨by rw [HR.out],hu.trans u1⟩
    ·obtain ⟨m,rfl⟩:∃m,k=m+1:=⟨k-1,by omega⟩
     obtain ⟨g',off',hgo,_,_,hc0,e0⟩:=(h.up good_S hu).at_S (show m<xs.length by omega)
     injection hgo with hgo
     injection hgo with hg' ho' _
     subst hg' ho'
     have hi0:(0:Int)≤(m:Int)+1:=by omega
     have hi2:(0:Int)<(m:Int)+1:=by omega
     have hi1:(m:Int)+1<(xs.length:Int):=by omega
     have hwm:IntKind.i64.wrap (m:Int)=(m:Int):=IntWalk.i64_in _ (by omega)
     have hm0:(0:Int)≤(m:Int):=by omega
     have hm1:(m:Int)<(xs.length:Int):=by omega
     go_wp2_with fail
     refine (ck.out _ hu).mono ?_
     rintro e w1 ⟨rfl,u1⟩
     go_wp2_with fail
     refine bodyPost_ret (v:=.bool false) (by simp [results,Tryz.results71,go_sem]) rfl ?_
     exact ⟨by rw [HR.out],hu.trans u1⟩
   ·rw [hkb] at ck
    by_cases k0:k=0
    ·subst k0
     have HN:=Hd (keysTo_one hlt hkb)
     have hc':wr.cell? ⟨g,off,none⟩=some (.string xs[0]):=by simpa using hc
     clear hc
     go_wp2_with fail
     refine (ck.out _ hu).mono ?_
     rintro e w1 ⟨rfl,u1⟩
     have hc1:w1.cell? _=_:=(u1.cell (cell_lt hc')).trans hc'
     clear hc'
     go_wp2_with fail
     go_roundw
     case rel=>exact ⟨0+1,by omega,by go_num,HN,hu.trans u1⟩
     case measure=>simp [intOf];omega
    ·obtain ⟨m,rfl⟩:∃m,k=m+1:=⟨k-1,by omega⟩
     obtain ⟨g',off',hgo,_,_,hc0,e0⟩:=(h.up good_S hu).at_S (show m<xs.length by omega)
     injection hgo with hgo
     injection hgo with hg' ho' _
     subst hg' ho'
     have hi0:(0:Int)≤(m:Int)+1:=by omega
     have hi2:(0:Int)<(m:Int)+1:=by omega
     have hi1:(m:Int)+1<(xs.length:Int):=by omega
     have hwm:IntKind.i64.wrap (m:Int)=(m:Int):=IntWalk.i64_in _ (by omega)
     have hm0:(0:Int)≤(m:Int):=by omega
     have hm1:(m:Int)<(xs.length:Int):=by omega
     cases hlb:bytesLt xs[m] xs[m+1]
     ·have HR:=Hd (HF.out (fun hh=>by have:=(hh (m+1) hlt).2 (by omega);simp only [Nat.add_sub_cancel] at this;rw [hlb] at this;cases this))
      unfold bytesLt at hlb
      go_wp2_with fail
      refine (ck.out _ hu).mono ?_
      rintro e w1 ⟨rfl,u1⟩
      have hc1:w1.cell? _=_:=(u1.cell (cell_lt hc)).trans hc
      have hc01:w1.cell? _=_:=(u1.cell (cell_lt hc0)).trans hc0
      clear hc hc0
      go_wp2_with fail
      refine bodyPost_ret (v:=.bool false) (by simp [results,Tryz.results71,go_sem]) rfl ?_
      exact ⟨by rw [HR.out],hu.trans u1⟩
     ·have HN:=Hd (keysTo_succ hlt HB.out hkb hlb)
      unfold bytesLt at hlb
      go_wp2_with fail
      refine (ck.out _ hu).mono ?_
      rintro e w1 ⟨rfl,u1⟩
      have hc1:w1.cell? _=_:=(u1.cell (cell_lt hc)).trans hc
      have hc01:w1.cell? _=_:=(u1.cell (cell_lt hc0)).trans hc0
      clear hc hc0
      go_wp2_with fail
      go_roundw
      case rel=>exact ⟨m+1+1,by omega,by go_num,HN,hu.trans u1⟩
      case measure=>simp [intOf];omega
  ·have HR:=Hd (HT.out (keysP_of (by omega) HB.out))
   go_wp2_with fail
   refine bodyPost_ret (v:=.bool true) (by simp [results,Tryz.results71,go_sem]) rfl ?_
   exact ⟨by rw [HR.out],hu⟩
  --@end
--@begin f{spec.l15Keys}
theorem c_l15Keys (xs:List ByteArray) (A:Option Addr) (c:Nat) (w:World) (h:SRW shS w A c xs) (hz:∀x∈xs,x.size≤1048576):Calls Tryz.prog 58 #[.slice A xs.length c] w (RetV (.bool (keysB xs&&decide (xs.length≤6))) w):=by
 have hlen:=h.len_le
 have CK:=Hd (fun k (hk:k<xs.length) W (u:Up w W)=>c_specKeyPlace xs[k] W (hz _ (List.getElem_mem hk)))
 have HF:Hid (¬KeysP xs→(keysB xs&&decide (xs.length≤6))=false):=Hd (fun hh=>by rw [keysB_f hh];rfl)
 have HT:Hid (KeysP xs→xs.length≤6→(keysB xs&&decide (xs.length≤6))=true):=Hd (fun hh h6=>by rw [keysB_t hh];simpa using h6)
 have H6:Hid (¬xs.length≤6→(keysB xs&&decide (xs.length≤6))=false):=Hd (fun hh=>by rw [decide_eq_false hh];simp)
 generalize (keysB xs&&decide (xs.length≤6))=R at *
 go_enter Tryz.func58,Tryz.ntmps58
 go_wp2_with fail
 go_loopw [3] (fun i wr=>∃k:Nat,k≤xs.length∧k≤7∧i=.int .i64 k∧Hid (KeysTo xs k)∧Up w wr) (fun i _=>xs.length-(intOf i).toNat)
 case atStart=>exact ⟨0,Nat.zero_le _,Nat.zero_le _,rfl,Hd (fun j hj h1=>absurd h1 (by omega)),Up.refl _⟩
 case round =>
  obtain ⟨k,hk,hk7,rfl,HB,hu⟩:=hrel
  by_cases hlt:k<xs.length∧k≤6
  ·obtain ⟨hlt,hk6⟩:=hlt
   have hk6i:(k:Int)≤6:=by omega
   obtain ⟨g,off,rfl,_,_,hc,hb1⟩:=(h.up good_S hu).at_S hlt
   have ck:=Hd (CK.out k hlt)
   cases hkb:keyB xs[k]
   ·have HR:=Hd (HF.out (fun hh=>by have:=(hh k hlt).1;rw [hkb] at this;cases this))
    cases hpo:placeOf xs[k] with
    | some pp=>rw [keyB,hpo] at hkb;cases hkb
    | none =>
     rw [hpo] at ck
     clear HF HT H6 hpo hkb
     by_cases k0:k=0
     ·subst k0
      have hc':wr.cell? ⟨g,off,none⟩=some (.string xs[0]):=by simpa using hc
      clear hc
      go_wp2_with fail
      refine (ck.out _ hu).mono ?_
      rintro e w1 ⟨u1,A9,c9,hh9⟩
      obtain ⟨rfl,_⟩:=hh9
      go_wp2_with fail
      go_quiet (fail)
      go_wp2_with fail
      refine bodyPost_ret (v:=.bool false) (by simp [results,Tryz.results58,go_sem]) rfl ?_
      exact ⟨by rw [HR.out],(hu.trans u1).drewN _⟩
     ·obtain ⟨m,rfl⟩:∃m,k=m+1:=⟨k-1,by omega⟩
      obtain ⟨g',off',hgo,_,_,hc0,e0⟩:=(h.up good_S hu).at_S (show m<xs.length by omega)
      injection hgo with hgo
      injection hgo with hg' ho' _
      subst hg' ho'
      have hi0:(0:Int)≤(m:Int)+1:=by omega
      have hi2:(0:Int)<(m:Int)+1:=by omega
      have hi1:(m:Int)+1<(xs.length:Int):=by omega
      have hwm:IntKind.i64.wrap (m:Int)=(m:Int):=IntWalk.i64_in _ (by omega)
      have hm0:(0:Int)≤(m:Int):=by omega
      have hm1:(m:Int)<(xs.length:Int):=by omega
      go_wp2_with fail
      refine (ck.out _ hu).mono ?_
      rintro e w1 ⟨u1,A9,c9,hh9⟩
      obtain ⟨rfl,_⟩:=hh9
      go_wp2_with fail
      go_quiet (fail)
      go_wp2_with fail
      refine bodyPost_ret (v:=.bool false) (by simp [results,Tryz.results58,go_sem]) rfl ?_
      exact ⟨by rw [HR.out],(hu.trans u1).drewN _⟩
   ·cases hpo:placeOf xs[k] with
    | none=>rw [keyB,hpo] at hkb;cases hkb
    | some pp =>
     rw [hpo] at ck
     clear hpo
     by_cases k0:k=0
     ·subst k0
      have HN:=Hd (keysTo_one hlt hkb)
      have hc':wr.cell? ⟨g,off,none⟩=some (.string xs[0]):=by simpa using hc
      clear hc
      go_wp2_with fail
      refine (ck.out _ hu).mono ?_
      rintro e w1 ⟨u1,A9,c9,hh9⟩
      obtain ⟨rfl,_⟩:=hh9
      have hc1:w1.cell? _=_:=(u1.cell (cell_lt hc')).trans hc'
      clear hc'
      go_wp2_with fail
      go_quiet (fail)
      go_wp2_with fail
      go_roundw
      case rel=>exact ⟨0+1,by omega,by omega,by go_num,HN,(hu.trans u1).drewN _⟩
      case measure=>simp [intOf];omega
     ·obtain ⟨m,rfl⟩:∃m,k=m+1:=⟨k-1,by omega⟩
      obtain ⟨g',off',hgo,_,_,hc0,e0⟩:=(h.up good_S hu).at_S (show m<xs.length by omega)
      injection hgo with hgo
      injection hgo with hg' ho' _
      subst hg' ho'
      have hi0:(0:Int)≤(m:Int)+1:=by omega
      have hi2:(0:Int)<(m:Int)+1:=by omega
      have hi1:(m:Int)+1<(xs.length:Int):=by omega
      have hwm:IntKind.i64.wrap (m:Int)=(m:Int):=IntWalk.i64_in _ (by omega)
      have hm0:(0:Int)≤(m:Int):=by omega
      have hm1:(m:Int)<(xs.length:Int):=by omega
      cases hlb:bytesLt xs[m] xs[m+1]
      ·have HR:=Hd (HF.out (fun hh=>by have:=(hh (m+1) hlt).2 (by omega);simp only [Nat.add_sub_cancel] at this;rw [hlb] at this;cases this))
       unfold bytesLt at hlb
       go_wp2_with fail
       refine (ck.out _ hu).mono ?_
       rintro e w1 ⟨u1,A9,c9,hh9⟩
       obtain ⟨rfl,_⟩:=hh9
       have hc1:w1.cell? _=_:=(u1.cell (cell_lt hc)).trans hc
       have hc01:w1.cell? _=_:=(u1.cell (cell_lt hc0)).trans hc0
       clear hc hc0
       go_wp2_with fail
       go_quiet (fail)
       go_wp2_with fail
       refine bodyPost_ret (v:=.bool false) (by simp [results,Tryz.results58,go_sem]) rfl ?_
       exact ⟨by rw [HR.out],(hu.trans u1).drewN _⟩
      ·have HN:=Hd (keysTo_succ hlt HB.out hkb hlb)
       unfold bytesLt at hlb
       go_wp2_with fail
       refine (ck.out _ hu).mono ?_
       rintro e w1 ⟨u1,A9,c9,hh9⟩
       obtain ⟨rfl,_⟩:=hh9
       have hc1:w1.cell? _=_:=(u1.cell (cell_lt hc)).trans hc
       have hc01:w1.cell? _=_:=(u1.cell (cell_lt hc0)).trans hc0
       clear hc hc0
       go_wp2_with fail
       go_quiet (fail)
       go_wp2_with fail
       go_roundw
       case rel=>exact ⟨m+1+1,by omega,by omega,by go_num,HN,(hu.trans u1).drewN _⟩
       case measure=>simp [intOf];omega
  ·by_cases h6:xs.length≤6
   ·have hnl:¬k<xs.length:=fun hh=>hlt ⟨hh,by omega⟩
    have HR:=Hd (HT.out (keysP_of (by omega) HB.out) h6)
    have h6i:(xs.length:Int)≤6:=by omega
    have hki:¬(k:Int)<(xs.length:Int):=by omega
    clear HT HF H6
    go_wp2_with fail
    refine bodyPost_ret (v:=.bool true) (by simp [results,Tryz.results58,go_sem]) rfl ?_
    exact ⟨by rw [HR.out],hu⟩
   ·have HR:=Hd (H6.out h6)
    have h6i:¬(xs.length:Int)≤6:=by omega
    have hki:¬(k:Int)≤6:=by
     intro hh
     exact hlt ⟨by omega,by omega⟩
    clear HT HF H6
    by_cases hd:(k:Int)<(xs.length:Int)
    ·go_wp2_with fail
     refine bodyPost_ret (v:=.bool false) (by simp [results,Tryz.results58,go_sem]) rfl ?_
     exact ⟨by rw [HR.out],hu⟩
    ·go_wp2_with fail
     refine bodyPost_ret (v:=.bool false) (by simp [results,Tryz.results58,go_sem]) rfl ?_
     exact ⟨by rw [HR.out],hu⟩
  --@end
def imgB (x:TImage):Bool:=placeB x.1 x.2.1&&!(decide (64<x.2.2.2.1.size)||decide (64<x.2.2.2.2.2.size))&&(x.2.2.1||x.2.2.2.1.toList.isEmpty)&&(x.2.2.2.2.1||x.2.2.2.2.2.toList.isEmpty)&&!(x.2.2.1==x.2.2.2.2.1&&x.2.2.2.1.toList==x.2.2.2.2.2.toList)
def ImagesP (l:List TImage):Prop:=l.length≤240∧∀i (h:i<l.length),imgB l[i]=true∧(0<i→locLt (l[i-1].1,l[i-1].2.1) (l[i].1,l[i].2.1)=true)
instance (l:List TImage):Decidable (ImagesP l):=by unfold ImagesP;infer_instance
theorem c_long1 (s:ByteArray) (w:World):Calls Tryz.prog 103 #[.string s] w (BoolP (decide (64<s.size)) w):=by
 go_enter Tryz.func103,Tryz.ntmps103
 go_wp2_with fail
 go_ret
 exact ⟨by first | rfl | (simp;omega),Up.refl _⟩
theorem c_long (xs:List ByteArray) (n:Int) (hn:n=xs.length) (A:Option Addr) (c:Nat) (w:World) (h:SRW shS w A c xs) :
 Calls Tryz.prog 72 #[.slice A xs.length c] w (RetV (.bool (xs.any fun s=>decide (64<s.size))) w):=by
 have eg:∀args w,(callFunc 103 args).run Tryz.prog w=.ok (.enter 103 args) w:=enters_of Tryz.func103 (by kernel_rfl) rfl
 have EG:=Hd eg
 clear eg
 go_enter Tryz.func72,Tryz.ntmps72
 go_wp2_with fail
 refine (c_ContainsFuncString 103 #[] EG.out (fun s=>decide (64<s.size)) A c xs _ h (fun W x _ _=>c_long1 x W)).mono ?_
 rintro e w1 ⟨rfl,u1⟩
 obtain ⟨b,hb⟩:∃b,b=(xs.any fun s=>decide (64<s.size)):=⟨_,rfl⟩
 rw [←hb]
 have HB:=Hd hb
 clear hb
 go_wp2_with fail
 go_ret
 exact ⟨by rw [←HB.out];first | done | rfl,u1⟩
end Go.Proofs.YtojmcmghmnfjeaaGreatDoor
