/-
 Parts of the proof.
-/
import Derived.Test.YtojmcmghmnfjeaaGreatDoorM1E
set_option maxHeartbeats 8000000
set_option maxRecDepth 100000
namespace Go.Proofs.YtojmcmghmnfjeaaGreatDoor
open Go.RowKit
set_option linter.unusedVariables false
set_option linter.unusedSimpArgs false
theorem Up.trans' {a b c:World} (h:Up a b) (k:Below a.heap.size b c):Up a c:=Below.trans h k
theorem c_NumText_out (n:Int) (w:World) (h:¬n.natAbs≤999999999999999999):Calls Tryz.prog 137 #[.int .i64 n] w (RetV (.string ⟨#[]⟩) w):=by
 have hb:inB n (-999999999999999999) 999999999999999999=false:=inB_f.2 (by omega)
 have ci:∀w,Calls Tryz.prog 160 #[.int .i64 n] w fun e w'=>e=.returned (.bool false)∧w=w':=fun w=>by
  go_enter Tryz.func160,Tryz.ntmps160
  go_wp2_with fail
  refine (within_any _ _ _ _).mono ?_
  rintro e w' ⟨rfl,rfl⟩
  rw [hb]
  go_wp2_with fail
  go_ret
  exact ⟨rfl,rfl⟩
 go_enter Tryz.func137,Tryz.ntmps137
 go_wp2_with fail
 refine (ci _).mono ?_
 rintro e w' ⟨rfl,rfl⟩
 go_wp2_with fail
 go_ret
 exact ⟨rfl,Up.refl _⟩
theorem c_NumTx (n:Int) (w:World) (htab:Tab w):Calls Tryz.prog 137 #[.int .i64 n] w (RetV (.string (numTx n)) w):=by
 unfold numTx
 by_cases h:n.natAbs≤999999999999999999
 ·rw [if_pos h];exact c_NumText n w h htab
 ·rw [if_neg h];exact c_NumText_out n w h
def numV (l:List UInt8):Value:=takeV (takeNum 0 2000000000000000000 l)
theorem c_getNumber (s:ByteArray) (w:World) (hs:s.size≤1048576) (htab:Tab w):Calls Tryz.prog 107 #[.string s] w (RetV (numV s.data.toList) w):=by
 have hll:=slen s
 obtain ⟨R,hR⟩:∃R,R=numV s.data.toList:=⟨_,rfl⟩
 rw [←hR]
 by_cases h8:8≤s.size
 ·have hle:8≤s.data.toList.length:=by omega
  have hd:s.extract 8 s.size=bs (s.data.toList.drop 8):=by rw [ext_bs,List.take_of_length_le (by omega)]
  have HD:=Hd hd
  have HB:=Hd (fun k (h:k<s.size)=>beV_take s h)
  have hlt:∀k,k<8→beV (s.data.toList.take k)<72057594037927936:=fun k hk=>by
   have:=beV_lt (s.data.toList.take k)
   rw [List.length_take,Nat.min_eq_left (by omega)] at this
   have h2:(256:Nat) ^ k≤256 ^ 7:=Nat.pow_le_pow_right (by omega) (by omega)
   have h3:(256:Nat) ^ 7=72057594037927936:=rfl
   omega
  have hVl:beV (s.data.toList.take 8)<18446744073709551616:=by
   have:=beV_lt (s.data.toList.take 8)
   rw [List.length_take,Nat.min_eq_left hle] at this
   exact this
  have HL:=Hd hlt
  have HV:=Hd hVl
  have HR:Hid ((beV (s.data.toList.take 8)≤2000000000000000000→R=.tuple #[.string (numTx ((beV (s.data.toList.take 8):Int)-1000000000000000000)),.string (s.extract 8 s.size),.bool true])∧(¬beV (s.data.toList.take 8)≤2000000000000000000→R=.tuple #[.string ⟨#[]⟩,.string ⟨#[]⟩,.bool false])):=by
   refine ⟨fun hb=>?_,fun hb=>?_⟩
   ·rw [hR,numV,takeNum,if_pos ⟨hle,Nat.zero_le _,hb⟩,hd];rfl
   ·rw [hR,numV,takeNum,if_neg (fun hh=>hb hh.2.2)];rfl
  clear hlt hd hR hVl
  have h8i:¬((s.size:Int)<8):=by omega
  go_enter Tryz.func107,Tryz.ntmps107
  go_wp2_with fail
  go_loopw [10,5] (fun i n wr=>∃k:Nat,k≤8∧i=.int .i64 k∧n=.int .u64 ((beV (s.data.toList.take k):Nat):Int)∧Up w wr) (fun i _ _=>8-(intOf i).toNat)
  case atStart=>exact ⟨0,Nat.zero_le _,rfl,by simp [beV],Up.refl _⟩
  case round =>
   obtain ⟨k,hk,rfl,rfl,hu⟩:=hrel
   by_cases hlt:k<8
   ·have hks:k<s.size:=by omega
    have HB2:=Hd (HB.out k hks)
    have hv7:=HL.out k hlt
    have hc:=s[k].toNat_lt
    generalize beV (s.data.toList.take k)=V at *
    go_wp2_with fail
    go_roundw
    case rel=>exact ⟨k+1,by omega,by go_num,by rw [HB2.out];congr 1,hu⟩
    case measure=>simp [intOf];omega
   ·obtain rfl:k=8:=by omega
    have hv:=HV.out
    have ct:=fun W (hW:Up w W)=>c_NumTx ((beV (s.data.toList.take 8):Int)-1000000000000000000) W (tab_up htab hW)
    have CT:=Hd ct
    clear ct HB HL HV
    generalize beV (s.data.toList.take 8)=V at *
    by_cases hb:V≤2000000000000000000
    ·have hw1:wrap64 (V:Int)=(V:Int):=by unfold wrap64;omega
     have hbi:¬((2000000000000000000:Int)<(V:Int)):=by omega
     have HRR:=Hd (HR.out.1 hb)
     clear HR
     go_wp2_with fail
     refine wp_region_up (by kernel_rfl) (by kernel_rfl) ?_
     repeat (go_big_quiet_step ((go_at_call 137;exact up_call (CT.out _ (hu.trans (UpT.up _))) (UpT.up _))))
     refine wpQuiet_nil ?_
     rintro w4 ⟨⟨w4',u4⟩,rfl⟩
     go_wp2_with fail
     refine bodyPost_ret (v:=.tuple #[.string (numTx ((V:Int)-1000000000000000000)),.string (s.extract 8 s.size),.bool true]) (by simp [results,Tryz.results107,go_sem]) rfl ?_
     exact ⟨by rw [HRR.out],hu.trans u4⟩
    ·have hbi:(2000000000000000000:Int)<(V:Int):=by omega
     have HRR:=Hd (HR.out.2 hb)
     clear HR
     go_wp2_with fail
     refine bodyPost_ret (v:=.tuple #[.string ⟨#[]⟩,.string ⟨#[]⟩,.bool false]) (by simp [results,Tryz.results107,go_sem]) rfl ?_
     exact ⟨by rw [HRR.out],hu⟩
 ·have h8i:(s.size:Int)<8:=by omega
  have HRR:Hid (R=.tuple #[.string ⟨#[]⟩,.string ⟨#[]⟩,.bool false]):=by
   unfold Hid
   rw [hR,numV,takeNum,if_neg (fun hh=>h8 (by have:=hh.1;omega))];rfl
  clear hR
  go_enter Tryz.func107,Tryz.ntmps107
  go_wp2_with fail
  go_ret3
  exact ⟨by rw [HRR.out];rfl,Up.refl _⟩
structure BldT (w:World) (O:List UInt8) where
 val:World
 up:Up w val
 bl:Bld8 w.heap.size w.heap.size O val
theorem wp_region_bld {P:Program} {id:Nat} {Q:Exit→Act→World→Prop} {a:Act} {w wr:World} {O:List UInt8} {l:List Oper} (hu:Up w wr) (hb:Bld8 w.heap.size w.heap.size O wr) (hm:P.follows .mixedOrders=true) (hB:Region.lexB .any l.toArray=true)
 (h:wpQuiet P l.toArray (fun W=>∃t:BldT w O,W=t.val) (fun a'=>∀w',(∃t:BldT w O,w'=t.val)→Q .normal a' w') l a):(Code.region id l.toArray true).wp P Q a wr :=
 wp_region_quiet (C:=fun W=>∃t:BldT w O,W=t.val) hm hB ⟨⟨_,hu.drew,bld_up hb (Up.refl wr).drew⟩,rfl⟩ (by simpa using h)
theorem c_BStringT (w:World) (O:List UInt8) (t:BldT w O) :
 Calls Tryz.prog 139 #[.pointer (some ⟨w.heap.size,0,none⟩)] t.val fun e w'=>e=.returned (.string ⟨O.toArray⟩)∧∃t:BldT w O,w'=t.val :=
 (Go.Proofs.Any.Builder_String_any_k bl169 bex w.heap.size w.heap.size O t.val t.bl t.up.size).mono fun e w' ⟨he,hb,hk,_⟩=>⟨he,⟨w',t.up.trans' hk,hb⟩,rfl⟩
def strV (l:List UInt8):Value:=takeV ((decS l).map fun p=>(bs p.1,p.2))
theorem c_getString (s:ByteArray) (w:World) (hs:s.size≤1048576):Calls Tryz.prog 108 #[.string s] w (RetV (strV s.data.toList) w):=by
 obtain ⟨R,hR⟩:∃R,R=strV s.data.toList:=⟨_,rfl⟩
 rw [←hR]
 have HN:Hid (decS s.data.toList=none→R=.tuple #[.string ⟨#[]⟩,.string ⟨#[]⟩,.bool false]):=Hd fun h=>by rw [hR,strV,h];rfl
 have HY:Hid (∀t r,decS s.data.toList=some (t,r)→R=.tuple #[.string (bs t),.string (bs r),.bool true]):=Hd fun t r h=>by rw [hR,strV,h];rfl
 clear hR
 have kb:=Bk.new w 162 #[.pointer none,.slice none 0 0]
 have b0:Bld8 w.heap.size w.heap.size [] (w.alloc (.cells #[.pointer none,.slice none 0 0] 162)):=bld_new _ _ kb
 have uu0:Up w (w.alloc (.cells #[.pointer none,.slice none 0 0] 162)):=(Up.refl w).alloc _
 go_enter Tryz.func108,Tryz.ntmps108
 go_wp2_with fail
 go_loopw [6] (fun i wr=>∃(k:Nat) (O:List UInt8),k≤s.size∧i=.int .i64 k∧O.length≤k∧Hid (decS s.data.toList=ahead O (decS (s.data.toList.drop k)))∧Bld8 w.heap.size w.heap.size O wr∧Up w wr) (fun i _=>s.size-(intOf i).toNat)
 case atStart=>exact ⟨0,[],Nat.zero_le _,rfl,by simp,Hd (by rw [ahead_nil];simp),b0,uu0⟩
 case round =>
  obtain ⟨k,O,hk,rfl,hOk,HE,bO,hu⟩:=hrel
  have zw:=hu.size
  by_cases hlt:k+1<s.size
  ·have hk0:k<s.size:=by omega
   by_cases hz:s[k]=0
   ·have bz:(s[k].toNat:Int)=0:=u8_yb 0 rfl hz
    by_cases hy:s[k+1]=0
    ·have bY:(s[k+1].toNat:Int)=0:=u8_yb 0 rfl hy
     have he:decS s.data.toList=some (O,s.data.toList.drop (k+2)):=by
      rw [HE.out,decS_00 s hlt hz hy];simp [ahead]
     have hd:s.extract (k+2) s.size=bs (s.data.toList.drop (k+2)):=by rw [ext_bs,List.take_of_length_le (by rw [slen];exact Nat.le_refl _)]
     have HRR:=Hd (HY.out _ _ he)
     have HD:=Hd hd
     have h2i:(k:Int)+2≤(s.size:Int):=by omega
     have h2n:0≤(k:Int)+2:=by omega
     have h2t:((k:Int)+2).toNat=k+2:=by omega
     clear he hd HE HN HY
     go_wp2_with fail
     haveI:Nonempty (BldT w O):=⟨⟨wr,hu,bO⟩⟩
     refine wp_region_bld hu bO (by kernel_rfl) (by kernel_rfl) ?_
     repeat (go_big_quiet_step ((go_at_call 139;exact c_BStringT _ _ _)))
     refine wpQuiet_nil ?_
     rintro w4 ⟨⟨w4',u4,b4⟩,rfl⟩
     go_wp2_with fail
     refine bodyPost_ret (v:=.tuple #[.string (bs O),.string (s.extract (k+2) s.size),.bool true]) (by simp [results,Tryz.results108,go_sem,bs]) rfl ?_
     exact ⟨by rw [HRR.out,HD.out],u4⟩
    ·by_cases hf:s[k+1]=255
     ·have bF:(s[k+1].toNat:Int)=255:=u8_yb 255 rfl hf
      have nY:=u8_nn 0 rfl hy
      have bY:=u8_nb 0 rfl hy
      have HS:=Hd (show decS s.data.toList=ahead (O++[0]) (decS (s.data.toList.drop (k+2))) by rw [HE.out,decS_ff s hlt hz hf,ahead_map])
      clear HE hz hf hy
      go_wp2_with fail
      refine (c_WriteByte _ _ O 0 _ bO (by omega) zw).mono ?_
      rintro e w1 ⟨rfl,b1,k1,_⟩
      go_wp2_with fail
      go_roundw
      case rel=>exact ⟨k+2,O++[0],by omega,by go_num,by simp;omega,HS,b1,hu.trans' k1⟩
      case measure=>simp [intOf];omega
     ·have nY:=u8_nn 0 rfl hy
      have bY:=u8_nb 0 rfl hy
      have nF:=u8_nn 255 rfl hf
      have bF:=u8_nb 255 rfl hf
      have BF:=u8_nB 255 rfl hf
      have HRR:=Hd (HN.out (show decS s.data.toList=none by rw [HE.out,decS_bad s hlt hz hy hf];rfl))
      clear HE HN HY
      go_wp2_with fail
      refine bodyPost_ret (v:=.tuple #[.string ⟨#[]⟩,.string ⟨#[]⟩,.bool false]) (by simp [results,Tryz.results108,go_sem]) rfl ?_
      exact ⟨by rw [HRR.out],hu⟩
   ·have nz:=u8_nn 0 rfl hz
    have bz:=u8_nb 0 rfl hz
    have Bz:=u8_nB 0 rfl hz
    have HS:=Hd (show decS s.data.toList=ahead (O++[s[k]]) (decS (s.data.toList.drop (k+1))) by rw [HE.out,decS_ne s hlt hz,ahead_map])
    clear HE hz
    go_wp2_with fail
    refine (c_WriteByte _ _ O s[k] _ bO (by omega) zw).mono ?_
    rintro e w1 ⟨rfl,b1,k1,_⟩
    go_wp2_with fail
    go_roundw
    case rel=>exact ⟨k+1,O++[s[k]],by omega,by go_num,by simp;omega,HS,b1,hu.trans' k1⟩
    case measure=>simp [intOf];omega
  ·have HRR:=Hd (HN.out (show decS s.data.toList=none by rw [HE.out,decS_end s hlt];rfl))
   clear HE HN HY
   go_wp2_with fail
   refine bodyPost_ret (v:=.tuple #[.string ⟨#[]⟩,.string ⟨#[]⟩,.bool false]) (by simp [results,Tryz.results108,go_sem]) rfl ?_
   exact ⟨by rw [HRR.out],hu⟩
def subsI (s:List UInt8):Option (List ByteArray):=getSubs 0 2000000000000000000 false s
theorem subsI_eq (s:List UInt8):subsI s=subsOf s:=getSubs_eq _ _ _ _ _ _ (by omega) (by omega) (by omega) (by omega) s
theorem putS_of {l:List ByteArray} (h:subsB l=true):putSubsL l=l.flatMap subKeyL:=by unfold putSubsL;rw [if_pos h]
def GsO (r:Option (List ByteArray)) (w:World) (e:Ending) (w':World):Prop :=
 Up w w'∧∃A c,match r with
  | some l=>e=.returned (.tuple #[.slice A l.length c,.bool true])∧∃bl,SO shS w' w.heap.size w'.heap.size A c l bl∧bl.Nodup
  | none=>e=.returned (.tuple #[.slice A 0 c,.bool false])∧SRW shS w' A c []
theorem c_GetSubsO (s:ByteArray) (w:World) (hs:s.size≤1048576) (htab:Tab w) (hm:MaxL w):Calls Tryz.prog 79 #[.string s] w (GsO (subsOf s.data.toList) w):=by
 rw [←subsI_eq]
 obtain ⟨i0,hi0,hz0,hzc,hz2⟩:=info_parts cinfo_StrG
 have hll:=slen s
 have so0:SO shS (w.alloc (.cells #[] 9)) w.heap.size (w.alloc (.cells #[] 9)).heap.size (some ⟨w.heap.size,0,none⟩) 0 ([]:List ByteArray) []:=⟨Nat.le_refl _,Nat.zero_le _,.inl ⟨rfl,rfl,rfl⟩⟩
 have uu0:Up w (w.alloc (.cells #[] 9)):=(Up.refl w).alloc _
 go_enter Tryz.func79,Tryz.ntmps79
 go_wp2_with fail
 go_loopw [5,4] (fun lf out wr=>∃(L:List UInt8) (O:List ByteArray) (D:Option Addr) (d:Nat) (bl:List Nat),lf=.string (bs L)∧out=.slice D O.length d∧O.length≤5∧L.length≤s.size∧Hid (decK 0 2000000000000000000 5 [] s.data.toList=decK 0 2000000000000000000 (5-O.length) O L)∧SO shS wr w.heap.size wr.heap.size D d O bl∧bl.Nodup∧Up w wr) (fun lf _ _=>strSz lf)
 case atStart=>exact ⟨s.data.toList,[],some ⟨w.heap.size,0,none⟩,0,[],rfl,rfl,by simp,by omega,Hd rfl,so0,by simp,uu0⟩
 case round =>
  obtain ⟨L,O,D,d,bl,rfl,rfl,hO,hL,HK,so,nd,hu⟩:=hrel
  by_cases hex:L=[]∨¬O.length≤4
  ·have hd:decK 0 2000000000000000000 5 [] s.data.toList=some (O,L):=by
    rw [HK.out]
    rcases hex with rfl | h5
    ·obtain h5 | ⟨m,hm⟩:5-O.length=0∨∃m,5-O.length=m+1:=by
      rcases Nat.eq_zero_or_pos (5-O.length) with h | h
      ·exact .inl h
      ·exact .inr ⟨5-O.length-1,by omega⟩
     ·rw [h5];rfl
     ·rw [hm];rfl
    ·have h5':5-O.length=0:=by omega
     rw [h5'];rfl
   have HD:=Hd hd
   have hgo:(!(bs L).toList.isEmpty&&decide ((O.length:Int)≤4))=false:=by
    rcases hex with rfl | h5
    ·rw [bs_nil_isEmpty];rfl
    ·rw [decide_eq_false (by omega)];simp
   have HX:=Hd hex
   clear hd HK
   have cso:=fun W (u:Up wr W)=>c_SubsOk O D d W ((SR.of_own good_S so).up good_S u)
   have cps:=fun W (u:Up wr W)=>c_PutSubs O D d W ((SR.of_own good_S so).up good_S u) (tab_up htab (hu.trans u)) (maxL_up hm (hu.trans u))
   have CSO:=Hd cso
   have CPS:=Hd cps
   clear cso cps
   rcases HX.out with hn | h5
   ·have hnl:(bs L).toList.isEmpty=true:=by rw [hn,bs_nil_isEmpty]
    clear hn hgo HX
    generalize bs L=SL at *
    by_cases hsb:subsB O=true
    ·have hput:=putS_of hsb
     have hbe:=str_beq (bs (putSubsL O)) s
     by_cases hq:O.flatMap subKeyL=s.data.toList
     ·have HE:Hid (subsI s.data.toList=some O):=by
       unfold Hid subsI getSubs
       rw [HD.out]
       unfold subsOut
       exact if_pos ⟨fun hh=>absurd hh (by decide),hsb,hq⟩
      rw [decide_eq_true (by rw [hput,hq];rfl)] at hbe
      clear hq hput
      generalize bs (putSubsL O)=T at *
      go_wp2_with fail
      refine (CSO.out _ (Up.refl _)).mono ?_
      rintro e w1 ⟨rfl,u1⟩
      rw [hsb]
      go_wp2_with fail
      refine (CPS.out _ u1).mono ?_
      rintro e w2 ⟨rfl,u2⟩
      go_wp2_with fail
      go_ret2
      rw [HE.out]
      exact ⟨(hu.trans u1).trans u2,_,_,rfl,_,(so.up good_S u1).up good_S u2,nd⟩
     ·have HE:Hid (subsI s.data.toList=none):=by
       unfold Hid subsI getSubs
       rw [HD.out]
       unfold subsOut
       exact if_neg (fun hh=>hq hh.2.2)
      rw [decide_eq_false (fun hh=>hq (by have:=congrArg (fun x:ByteArray=>x.data.toList) hh;rw [hput] at this;simpa [bs] using this))] at hbe
      clear hq hput
      generalize bs (putSubsL O)=T at *
      go_wp2_with fail
      refine (CSO.out _ (Up.refl _)).mono ?_
      rintro e w1 ⟨rfl,u1⟩
      rw [hsb]
      go_wp2_with fail
      refine (CPS.out _ u1).mono ?_
      rintro e w2 ⟨rfl,u2⟩
      go_wp2_with fail
      go_ret2
      rw [HE.out]
      exact ⟨(hu.trans u1).trans u2,_,_,rfl,SR.nilA _ _ _ _⟩
    ·have HE:Hid (subsI s.data.toList=none):=by
      unfold Hid subsI getSubs
      rw [HD.out]
      unfold subsOut
      exact if_neg (fun hh=>hsb hh.2.1)
     have hsb':subsB O=false:=by simpa using hsb
     go_wp2_with fail
     refine (CSO.out _ (Up.refl _)).mono ?_
     rintro e w1 ⟨rfl,u1⟩
     rw [hsb']
     go_wp2_with fail
     go_ret2
     rw [HE.out]
     exact ⟨hu.trans u1,_,_,rfl,SR.nilA _ _ _ _⟩
   ·have h5i:¬((O.length:Int)≤4):=by omega
    clear hgo HX
    cases hnl:(bs L).toList.isEmpty
    ·generalize bs L=SL at *
     by_cases hsb:subsB O=true
     ·have hput:=putS_of hsb
      have hbe:=str_beq (bs (putSubsL O)) s
      by_cases hq:O.flatMap subKeyL=s.data.toList
      ·have HE:Hid (subsI s.data.toList=some O):=by
        unfold Hid subsI getSubs
        rw [HD.out]
        unfold subsOut
        exact if_pos ⟨fun hh=>absurd hh (by decide),hsb,hq⟩
       rw [decide_eq_true (by rw [hput,hq];rfl)] at hbe
       clear hq hput
       generalize bs (putSubsL O)=T at *
       go_wp2_with fail
       refine (CSO.out _ (Up.refl _)).mono ?_
       rintro e w1 ⟨rfl,u1⟩
       rw [hsb]
       go_wp2_with fail
       refine (CPS.out _ u1).mono ?_
       rintro e w2 ⟨rfl,u2⟩
       go_wp2_with fail
       go_ret2
       rw [HE.out]
       exact ⟨(hu.trans u1).trans u2,_,_,rfl,_,(so.up good_S u1).up good_S u2,nd⟩
      ·have HE:Hid (subsI s.data.toList=none):=by
        unfold Hid subsI getSubs
        rw [HD.out]
        unfold subsOut
        exact if_neg (fun hh=>hq hh.2.2)
       rw [decide_eq_false (fun hh=>hq (by have:=congrArg (fun x:ByteArray=>x.data.toList) hh;rw [hput] at this;simpa [bs] using this))] at hbe
       clear hq hput
       generalize bs (putSubsL O)=T at *
       go_wp2_with fail
       refine (CSO.out _ (Up.refl _)).mono ?_
       rintro e w1 ⟨rfl,u1⟩
       rw [hsb]
       go_wp2_with fail
       refine (CPS.out _ u1).mono ?_
       rintro e w2 ⟨rfl,u2⟩
       go_wp2_with fail
       go_ret2
       rw [HE.out]
       exact ⟨(hu.trans u1).trans u2,_,_,rfl,SR.nilA _ _ _ _⟩
     ·have HE:Hid (subsI s.data.toList=none):=by
       unfold Hid subsI getSubs
       rw [HD.out]
       unfold subsOut
       exact if_neg (fun hh=>hsb hh.2.1)
      have hsb':subsB O=false:=by simpa using hsb
      go_wp2_with fail
      refine (CSO.out _ (Up.refl _)).mono ?_
      rintro e w1 ⟨rfl,u1⟩
      rw [hsb']
      go_wp2_with fail
      go_ret2
      rw [HE.out]
      exact ⟨hu.trans u1,_,_,rfl,SR.nilA _ _ _ _⟩
    ·generalize bs L=SL at *
     by_cases hsb:subsB O=true
     ·have hput:=putS_of hsb
      have hbe:=str_beq (bs (putSubsL O)) s
      by_cases hq:O.flatMap subKeyL=s.data.toList
      ·have HE:Hid (subsI s.data.toList=some O):=by
        unfold Hid subsI getSubs
        rw [HD.out]
        unfold subsOut
        exact if_pos ⟨fun hh=>absurd hh (by decide),hsb,hq⟩
       rw [decide_eq_true (by rw [hput,hq];rfl)] at hbe
       clear hq hput
       generalize bs (putSubsL O)=T at *
       go_wp2_with fail
       refine (CSO.out _ (Up.refl _)).mono ?_
       rintro e w1 ⟨rfl,u1⟩
       rw [hsb]
       go_wp2_with fail
       refine (CPS.out _ u1).mono ?_
       rintro e w2 ⟨rfl,u2⟩
       go_wp2_with fail
       go_ret2
       rw [HE.out]
       exact ⟨(hu.trans u1).trans u2,_,_,rfl,_,(so.up good_S u1).up good_S u2,nd⟩
      ·have HE:Hid (subsI s.data.toList=none):=by
        unfold Hid subsI getSubs
        rw [HD.out]
        unfold subsOut
        exact if_neg (fun hh=>hq hh.2.2)
       rw [decide_eq_false (fun hh=>hq (by have:=congrArg (fun x:ByteArray=>x.data.toList) hh;rw [hput] at this;simpa [bs] using this))] at hbe
       clear hq hput
       generalize bs (putSubsL O)=T at *
       go_wp2_with fail
       refine (CSO.out _ (Up.refl _)).mono ?_
       rintro e w1 ⟨rfl,u1⟩
       rw [hsb]
       go_wp2_with fail
       refine (CPS.out _ u1).mono ?_
       rintro e w2 ⟨rfl,u2⟩
       go_wp2_with fail
       go_ret2
       rw [HE.out]
       exact ⟨(hu.trans u1).trans u2,_,_,rfl,SR.nilA _ _ _ _⟩
     ·have HE:Hid (subsI s.data.toList=none):=by
       unfold Hid subsI getSubs
       rw [HD.out]
       unfold subsOut
       exact if_neg (fun hh=>hsb hh.2.1)
      have hsb':subsB O=false:=by simpa using hsb
      go_wp2_with fail
      refine (CSO.out _ (Up.refl _)).mono ?_
      rintro e w1 ⟨rfl,u1⟩
      rw [hsb']
      go_wp2_with fail
      go_ret2
      rw [HE.out]
      exact ⟨hu.trans u1,_,_,rfl,SR.nilA _ _ _ _⟩
  ·have hne : L ≠ []:=fun h=>hex (.inl h)
   have h4:O.length≤4:=by
    rcases Nat.lt_or_ge 4 O.length with h | h
    ·exact absurd (.inr (by omega)) hex
    ·exact h
   obtain ⟨c,l,rfl⟩:∃c l,L=c::l:=by cases L with
    | nil=>exact absurd rfl hne
    | cons c l=>exact ⟨c,l,rfl⟩
   have hk2:decK 0 2000000000000000000 5 [] s.data.toList=match takeSub 0 2000000000000000000 (c::l) with
    | none=>none
    | some (t,r)=>decK 0 2000000000000000000 (5-(O.length+1)) (O++[t]) r:=by
    rw [HK.out]
    obtain ⟨m,hm⟩:∃m,5-O.length=m+1:=⟨4-O.length,by omega⟩
    have e2:5-(O.length+1)=m:=by omega
    rw [hm,e2]
    rfl
   have HK2:=Hd hk2
   have he:=bs_isEmpty c l
   have hbz:=bs_size (c::l)
   have hll1:(c::l).length=l.length+1:=rfl
   have hbl:=bs_size l
   have h0S:0<(bs (c::l)).size:=by omega
   have hS0:(bs (c::l))[0]=c:=rfl
   have hx1:(bs (c::l)).extract 1 (bs (c::l)).size=bs l:=by rw [bs_extract,bs_size,List.take_length];rfl
   have cgn:=fun W (u:Up wr W)=>c_getNumber (bs l) W (by omega) (tab_up htab (hu.trans u))
   have cgs:=fun W=>c_getString (bs l) W (by omega)
   have CGN:=Hd cgn
   have CGS:=Hd cgs
   have HTK:Hid (takeSub 0 2000000000000000000 (c::l)=if c=1 then takeNum 0 2000000000000000000 l else if c=2 then (decS l).map fun p=>(bs p.1,p.2) else none):=rfl
   have htl:=fun t r=>takeSub_len (lo:=0) (hi:=2000000000000000000) (l:=c::l) (t:=t) (r:=r)
   have HTL:=Hd htl
   clear HK hk2 cgn cgs htl hex hne
   generalize bs (c::l)=S at *
   have HBZ:=Hd hbz
   clear hbz
   by_cases hc1:c=1
   ·have b1 : (c.toNat:Int)=1:=u8_yb 1 rfl hc1
    have HTK2:Hid (takeSub 0 2000000000000000000 (c::l)=takeNum 0 2000000000000000000 l):=by
     unfold Hid
     rw [HTK.out]
     rw [if_pos hc1]
    cases hts:takeSub 0 2000000000000000000 (c::l) with
    | none =>
     have HE:Hid (subsI s.data.toList=none):=by
      unfold Hid subsI getSubs
      rw [HK2.out,hts]
      rfl
     have CT:Hid (∀W,Up wr W→Calls Tryz.prog 107 #[.string (S.extract 1 S.size)] W (RetV (takeV none) W)):=Hd fun W u=>by
      have h:=CGN.out W u
      rw [←hts,HTK2.out,hx1]
      exact h
     clear hx1 HTK HTK2 HK2 HTL hts
     go_wp2_with fail
     refine (CT.out _ (Up.refl _)).mono ?_
     rintro e w1 ⟨rfl,u1⟩
     unfold takeV
     go_wp2_with fail
     go_ret2
     rw [HE.out]
     exact ⟨hu.trans u1,_,_,rfl,SR.nilA _ _ _ _⟩
    | some p =>
     obtain ⟨t,r⟩:=p
     obtain ⟨hr1,hr2⟩:=HTL.out t r hts
     have HK3:Hid (decK 0 2000000000000000000 5 [] s.data.toList=decK 0 2000000000000000000 (5-(O.length+1)) (O++[t]) r):=by
      unfold Hid
      rw [HK2.out,hts]
     have CT:Hid (∀W,Up wr W→Calls Tryz.prog 107 #[.string (S.extract 1 S.size)] W (RetV (takeV (some (t,r))) W)):=Hd fun W u=>by
      have h:=CGN.out W u
      rw [←hts,HTK2.out,hx1]
      exact h
     clear hx1 HTK HTK2 HK2 HTL hts
     have htm:t.size≤maxLen:=by unfold maxLen;omega
     have hrz:=bs_size r
     go_wp2_with fail
     refine (CT.out _ (Up.refl _)).mono ?_
     rintro e w1 ⟨rfl,u1⟩
     unfold takeV
     have hu1:=hu.trans u1
     have so1:=so.up good_S u1
     have kq:=Bk.new w1 9 #[.string t]
     have uq:=(Up.refl w1).alloc (.cells #[.string t] 9)
     have ho:shS.own (w1.alloc (.cells #[.string t] 9)) w.heap.size (w1.alloc (.cells #[.string t] 9)).heap.size [.string t] t []:=⟨⟨rfl,htm⟩,rfl⟩
     have hlo:=hu1.size
     have hx9:(O.length+1)*i0.bytes≤140737488355328:=by rw [hz2];omega
     have hx2:O.length+1≤maxLen:=by unfold maxLen;omega
     go_wp2_with (at_builtin
                  refine wpList_app good_S rfl _ _ _ _ 9 rfl i0 _ Tryz.underlying52 hi0 hz0 hzc (by rfl) (lo:=w.heap.size) (xs:=O) (ys:=[t]) (bl:=bl) (bs:=[[]]) (news:=[.string t]) rfl rfl (so1.up good_S uq) (by simpa using nd) (Src.box (t:=9) Tryz.underlying52 kq (by simp [Value.oneCell']) (by rw [hzc];rfl)) (Rowed.one good_S ho) (by simp;omega) hx9 hx2 ?_
                  intro D' d' bl' w2 hap
                  obtain ⟨so2,nd2,mem2,on2⟩:=hap)
     go_roundw
     case rel=>exact ⟨r,O++[t],D',d',bl',rfl,by simp,by simp;omega,by omega,by rw [List.length_append];exact HK3,so2,nd2,(hu1.trans uq).only on2 (fun y hy=>(so1.in_ good_S y hy).1)⟩
     case measure=>have:=HBZ.out;simp only [strSz];omega
   ·by_cases hc2 : c=2
    ·have b1 : (c.toNat:Int)=2:=u8_yb 2 rfl hc2
     have n1:=u8_nn 1 rfl hc1
     have b9:=u8_nb 1 rfl hc1
     have HTK2:Hid (takeSub 0 2000000000000000000 (c::l)=(decS l).map fun p=>(bs p.1,p.2)):=by
      unfold Hid
      rw [HTK.out]
      rw [if_neg hc1,if_pos hc2]
     cases hts:takeSub 0 2000000000000000000 (c::l) with
     | none =>
      have HE:Hid (subsI s.data.toList=none):=by
       unfold Hid subsI getSubs
       rw [HK2.out,hts]
       rfl
      have CT:Hid (∀W,Up wr W→Calls Tryz.prog 108 #[.string (S.extract 1 S.size)] W (RetV (takeV none) W)):=Hd fun W u=>by
       have h:=CGS.out W
       rw [←hts,HTK2.out,hx1]
       exact h
      clear hx1 HTK HTK2 HK2 HTL hts
      go_wp2_with fail
      refine (CT.out _ (Up.refl _)).mono ?_
      rintro e w1 ⟨rfl,u1⟩
      unfold takeV
      go_wp2_with fail
      go_ret2
      rw [HE.out]
      exact ⟨hu.trans u1,_,_,rfl,SR.nilA _ _ _ _⟩
     | some p =>
      obtain ⟨t,r⟩:=p
      obtain ⟨hr1,hr2⟩:=HTL.out t r hts
      have HK3:Hid (decK 0 2000000000000000000 5 [] s.data.toList=decK 0 2000000000000000000 (5-(O.length+1)) (O++[t]) r):=by
       unfold Hid
       rw [HK2.out,hts]
      have CT:Hid (∀W,Up wr W→Calls Tryz.prog 108 #[.string (S.extract 1 S.size)] W (RetV (takeV (some (t,r))) W)):=Hd fun W u=>by
       have h:=CGS.out W
       rw [←hts,HTK2.out,hx1]
       exact h
      clear hx1 HTK HTK2 HK2 HTL hts
      have htm:t.size≤maxLen:=by unfold maxLen;omega
      have hrz:=bs_size r
      go_wp2_with fail
      refine (CT.out _ (Up.refl _)).mono ?_
      rintro e w1 ⟨rfl,u1⟩
      unfold takeV
      have hu1:=hu.trans u1
      have so1:=so.up good_S u1
      have kq:=Bk.new w1 9 #[.string t]
      have uq:=(Up.refl w1).alloc (.cells #[.string t] 9)
      have ho:shS.own (w1.alloc (.cells #[.string t] 9)) w.heap.size (w1.alloc (.cells #[.string t] 9)).heap.size [.string t] t []:=⟨⟨rfl,htm⟩,rfl⟩
      have hlo:=hu1.size
      have hx9:(O.length+1)*i0.bytes≤140737488355328:=by rw [hz2];omega
      have hx2:O.length+1≤maxLen:=by unfold maxLen;omega
      go_wp2_with (at_builtin
                   refine wpList_app good_S rfl _ _ _ _ 9 rfl i0 _ Tryz.underlying52 hi0 hz0 hzc (by rfl) (lo:=w.heap.size) (xs:=O) (ys:=[t]) (bl:=bl) (bs:=[[]]) (news:=[.string t]) rfl rfl (so1.up good_S uq) (by simpa using nd) (Src.box (t:=9) Tryz.underlying52 kq (by simp [Value.oneCell']) (by rw [hzc];rfl)) (Rowed.one good_S ho) (by simp;omega) hx9 hx2 ?_
                   intro D' d' bl' w2 hap
                   obtain ⟨so2,nd2,mem2,on2⟩:=hap)
      go_roundw
      case rel=>exact ⟨r,O++[t],D',d',bl',rfl,by simp,by simp;omega,by omega,by rw [List.length_append];exact HK3,so2,nd2,(hu1.trans uq).only on2 (fun y hy=>(so1.in_ good_S y hy).1)⟩
      case measure=>have:=HBZ.out;simp only [strSz];omega
    ·have n1:=u8_nn 1 rfl hc1
     have b1:=u8_nb 1 rfl hc1
     have n2:=u8_nn 2 rfl hc2
     have b2:=u8_nb 2 rfl hc2
     have HE:Hid (subsI s.data.toList=none):=by
      unfold Hid subsI getSubs
      rw [HK2.out,HTK.out,if_neg hc1,if_neg hc2]
      rfl
     go_wp2_with fail
     go_ret2
     rw [HE.out]
     exact ⟨hu,_,_,rfl,SR.nilA _ _ _ _⟩
def nodeB (x:TNode):Bool:=placeB x.1 x.2.1&&decide (x.2.2.size≤64)
def TreeP (l:TTree):Prop:=l.length≤120∧∀i (h:i<l.length),nodeB l[i]=true∧(0<i→locLt (l[i-1].1,l[i-1].2.1) (l[i].1,l[i].2.1)=true)
instance (l:TTree):Decidable (TreeP l):=by unfold TreeP;infer_instance
end Go.Proofs.YtojmcmghmnfjeaaGreatDoor
